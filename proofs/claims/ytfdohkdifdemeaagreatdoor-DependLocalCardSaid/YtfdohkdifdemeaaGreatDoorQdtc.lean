/- Texts joined: Lite6 Lite7 Lite8 Lite9 Lite10 Lite11 LiteC. -/
import Derived.Test.YtfdohkdifdemeaaGreatDoorQdtb
import Derived.RowKit
import Derived.ChangeSame
import Derived.Carry
import Derived.OpenShut
import Derived.Deep.Slices
import Derived.Deep.Fields
import Derived.Lib.LaidTab
import Derived.Laws.OwnMore
set_option linter.all false
section
namespace bt
open Go Go.RowKit
structure Tok{α:Type}(a:α):Type where
def dR(P:Program)(c:e1)(Q:dS→Fr→World→Prop)(S:Fr)(w:World)(_:Tok (P,c,Q)):Prop:=eg P c Q S w
def jy(P:Program)(b7:List Step)(S:Fr)(w:World)(K:Fr→World→Prop)(_:Tok (P,b7,K)):Prop:=steps P b7 S w K
def lI(P:Program)(b7:List Step)(S:Fr)(w:World)(K:Fr→Prop)(_:Tok (P,b7,K)):Prop:=rC P b7 S w K
def ft(P:Program)(w0:World)(x:eD)(S:Fr)(w:World)(K:Fr→World→Prop)(_:Tok (P,w0,x,K)):Prop:=nv P w0 x S w K
def yn(P:Program)(w0:World)(s:Step)(S:Fr)(K:Fr→Prop)(_:Tok (P,w0,s,K)):Prop:=EU P w0 s S K
def qX(P:Program)(s:Step)(S:Fr)(w:World)(K:Fr→World→Prop)(_:Tok (P,s,K)):Prop:=lC P s S w K
def qM(P:Program)(w0:World)(s:Step)(S:Fr)(w:World)(K:Fr→World→Prop)(_:Tok (P,w0,s,K)):Prop:=BB P w0 s S w K
def o1(P:Program)(i:Ins)(S:Fr)(w:World)(K:Value→World→Prop)(_:Tok (P,i,K)):Prop:=lp P i S w K
def mj(P:Program)(i:Ins)(S:Fr)(w:World)(K:Value→World→Prop)(_:Tok (P,i,K)):Prop:=mY P i S w K
def wm(P:Program)(i:oY)(S:Fr)(w:World)(K:Value→World→Prop)(_:Tok (P,i,K)):Prop:=Oq P i S w K
def wo(P:Program)(x:Value)(l:List Value)(w:World)(K:Value→World→Prop)(_:Tok (P,K)):Prop:=Ot P x l w K
def nE(P:Program)(i:Ins)(S:Fr)(w:World)(K:Value→Prop)(_:Tok (P,i,K)):Prop:=lP P i S w K
def wF(P:Program)(i:oY)(S:Fr)(w:World)(K:Value→Prop)(_:Tok (P,i,K)):Prop:=X9 P i S w K
def FC(P:Program)(f:FuncId)(l:List Value)(w:World)(K:Value→Prop)(_:Tok (P,f,K)):Prop:=P5 P f l w K
def Bq(P:Program)(x:Value)(l:List Value)(w:World)(K:Value→Prop)(_:Tok (P,K)):Prop:=Ya P x l w K
def eC(P:Program)(i:sW)(S:Fr)(K:Value→Prop)(_:Tok (P,i,K)):Prop:=lO P i S K
def nF(i:sY)(S:Fr)(w:World)(K:Value→Prop)(_:Tok (i,K)):Prop:=mm i S w K
def hY(P:Program)(i:qy)(S:Fr)(w:World)(K:Value→World→Prop)(_:Tok (P,i,K)):Prop:=mh P i S w K
def wk(P:Program)(i:oY)(S:Fr)(w:World)(K:Value→World→Prop)(_:Tok (P,i,K)):Prop:=qw P i S w K
def gj(P:Program)(op:BinOp)(t:TypeId)(cV:Operand)(c3:Operand)(x:Value)(y:Value)(K:Value→Prop)(_:Tok (P,op,t,cV,c3,K)):Prop:=ln P op t cV c3 x y K
def wO(op:UnOp)(x:Value)(K:Value→Prop)(_:Tok (op,K)):Prop:=yT op x K
def Ba(k:IntKind)(x:Value)(K:Value→Prop)(_:Tok (k,K)):Prop:=Ff k x K
def nH(k:IntKind)(n:Int)(K:Value→Prop)(_:Tok (k,K)):Prop:=qH k n K
def jV(v:Value)(A:Prop)(B:Prop)(_:Tok (A,B)):Prop:=lo v A B
def ji(v:Value)(b:Bool)(A:Prop)(B:Prop)(C:Prop)(_:Tok (b,A,B,C)):Prop:=kR v b A B C
def Be(off:Nat)(x:Value)(K:Value→Prop)(_:Tok (off,K)):Prop:=Fh off x K
def yG(sz:Nat)(x:Value)(i:Value)(K:Value→Prop)(_:Tok (sz,K)):Prop:=yF sz x i K
def Fl(len:Nat)(sz:Nat)(x:Value)(i:Value)(K:Value→Prop)(_:Tok (len,sz,K)):Prop:=IE len sz x i K
def Fp(x:Value)(i:Value)(K:Value→Prop)(_:Tok (K)):Prop:=IG x i K
def Fo(len:Nat)(x:Value)(i:Value)(K:Value→Prop)(_:Tok (len,K)):Prop:=IF len x i K
def Fj(off:Nat)(x:Value)(K:Value→Prop)(_:Tok (off,K)):Prop:=ID off x K
def Bf(off:Nat)(n:Nat)(x:Value)(K:Value→Prop)(_:Tok (off,n,K)):Prop:=Fi off n x K
def Fa(S:Fr)(z:List Value)(pl:List (Nat×Nat))(dr:List (Nat×Operand))(K:Value→Prop)(_:Tok (z,pl,dr,K)):Prop:=Ix S z pl dr K
def yQ(S:Fr)(sz:Nat)(x:Value)(bA:Option Operand)(af:Option Operand)(mx:Option Operand)(K:Value→Prop)(_:Tok (sz,bA,af,mx,K)):Prop:=IS S sz x bA af mx K
def FF(S:Fr)(x:Value)(bA:Option Operand)(af:Option Operand)(K:Value→Prop)(_:Tok (bA,af,K)):Prop:=IQ S x bA af K
def sS(x:Value)(i:Nat)(K:Value→Prop)(_:Tok (i,K)):Prop:=uS x i K
def Bi(x:Value)(K:Value→Prop)(_:Tok (K)):Prop:=Fv x K
def Bh(x:Value)(K:Value→Prop)(_:Tok (K)):Prop:=Ft x K
def A8(x:Value)(K:Value→Prop)(_:Tok (K)):Prop:=Fe x K
def Bk(x:Value)(y:Value)(K:Value→Prop)(_:Tok (K)):Prop:=Fx x y K
def Bl(x:Value)(y:Value)(K:Value→Prop)(_:Tok (K)):Prop:=Fy x y K
def wD(x:Value)(K:Value→Prop)(_:Tok (K)):Prop:=wC x K
def pM(x:Value)(w:World)(K:Value→Prop)(_:Tok (K)):Prop:=Fs x w K
def sU(n:Nat)(x:Value)(w:World)(K:Value→Prop)(_:Tok (n,K)):Prop:=Fq n x w K
def yH(d:TypeDesc)(z:Value)(ok:Bool)(m:Value)(k:Value)(w:World)(K:Value→Prop)(_:Tok (d,z,ok,K)):Prop:=IJ d z ok m k w K
def Fu(m:Value)(w:World)(K:Value→Prop)(_:Tok (K)):Prop:=II m w K
def qF(x:Value)(v:Value)(w:World)(K:World→Prop)(_:Tok (K)):Prop:=wL x v w K
def yS(n:Nat)(x:Value)(v:Value)(w:World)(K:World→Prop)(_:Tok (n,K)):Prop:=yR n x v w K
def yJ(e:TypeId)(sz:Nat)(b:Nat)(z:Value)(l:Value)(c:Value)(w:World)(K:Value→World→Prop)(_:Tok (e,sz,b,z,K)):Prop:=IL e sz b z l c w K
def A7(S:Fr)(e:TypeId)(len:Nat)(sz:Nat)(z:List Value)(dr:List (Nat×Operand))(w:World)(K:Value→World→Prop)(_:Tok (e,len,sz,z,dr,K)):Prop:=E9 S e len sz z dr w K
def mg(P:Program)(t:TypeId)(e:TypeId)(sz:Nat)(b:Nat)(s:Value)(x:Value)(w:World)(K:Value→World→Prop)(_:Tok (P,t,e,sz,b,K)):Prop:=wi P t e sz b s x w K
def wA(d:TypeDesc)(m:Value)(k:Value)(v:Value)(w:World)(K:World→Prop)(_:Tok (d,K)):Prop:=IM d m k v w K
def FA(x:Value)(w:World)(K:Value→World→Prop)(_:Tok (K)):Prop:=IN x w K
def FE(x:Value)(w:World)(K:Value→World→Prop)(_:Tok (K)):Prop:=Qh x w K
def sZ(P:Program)(op:Op)(ty:TypeId)(S:Fr)(w:World)(K:Value→World→Prop)(_:Tok (P,op,ty,K)):Prop:=Qf P op ty S w K
def yA(P:Program)(f:FuncId)(l:List Value)(w:World)(K:Value→World→Prop)(_:Tok (P,f,K)):Prop:=Fc P f l w K
def FG(P:Program)(f:FuncId)(l:List Value)(w:World)(K:Value→World→Prop)(Z:List PanicEntry→World→Prop)(_:Tok (P,f,K,Z)):Prop:=wM P f l w K Z
def Bp(v:Value)(Z:List PanicEntry→Prop)(_:Tok (Z)):Prop:=sX v Z
def uQ(P:Program)(x:Value)(l:List Value)(w:World)(K:Value→World→Prop)(_:Tok (P,K)):Prop:=yz P x l w K
def wB(t:TypeId)(cs:Array Value)(w:World)(K:Value→World→Prop)(_:Tok (t,K)):Prop:=X2 t cs w K
def Fz(w:World)(K:Value→World→Prop)(_:Tok (K)):Prop:=X1 w K
def wz(P:Program)(b:e1)(Q:dS→Fr→World→Prop)(S:Fr)(w:World)(_:Tok (P,b,Q)):Prop:=Pn P b Q S w
def ik(r:List lN)(S:Fr)(w:World)(K:List Value→Prop)(_:Tok (r,K)):Prop:=oc r S w K
def hb(N:Fr→World→Prop)(Q:dS→Fr→World→Prop)(_:Tok (N,Q)):dS→Fr→World→Prop:=sQ N Q
def pc(i:Nat)(Q:dS→Fr→World→Prop)(_:Tok (i,Q)):dS→Fr→World→Prop:=y6 i Q
def qW(r:List lN)(R:Value→World→Prop)(_:Tok (r,R)):dS→Fr→World→Prop:=Ce r R
def vf(r:List lN)(R:Value→World→Prop)(Z:List PanicEntry→World→Prop)(_:Tok (r,R,Z)):dS→Fr→World→Prop:=R4 r R Z
section
variable{P:Program}{Q:dS→Fr→World→Prop}{N cN:Fr→World→Prop}{gR:Fr→Prop}{aE:Value→Prop}{K:Value→World→Prop}{kS:List Value→Prop}{R:Value→World→Prop}{Z:List PanicEntry→World→Prop}{yW:List PanicEntry→Prop}{S:Fr}{w:World}{A B C:Prop}
set_option linter.unusedVariables false
theorem NU  {t}:dR P .skip Q S w t=Q .normal S w:=propext Iff.rfl
theorem NV  {b7}{t}:dR P (.bF b7) Q S w t=jy P b7 S w (fun S w=>Q .normal S w) ⟨⟩:=propext Iff.rfl
theorem NW  {b7}{t}:dR P (.ec b7) Q S w t=lI P b7 S w (fun S => ∀w',Ext w w'→Q .normal S w') ⟨⟩:=propext Iff.rfl
theorem NX  {x}{t}:dR P (.dW x) Q S w t=(∀aq,Ext w aq→ft P aq x S aq (fun S w=>Q .normal S w) ⟨⟩):=propext Iff.rfl
theorem NY  {w0}{t}:ft P w0 .done S w cN t=cN S w:=propext Iff.rfl
theorem NZ  {w0}{t}:ft P w0 .nil S w cN t=True:=propext Iff.rfl
theorem N0  {w0 s r}{t}:ft P w0 (.take s r) S w cN t=yn P w0 s S (fun S=>ft P w0 r S w cN ⟨⟩) ⟨⟩:=propext Iff.rfl
theorem N1  {w0 s r}{t}:ft P w0 (.alt s r .nil) S w cN t=qM P w0 s S w (fun S w=>ft P w0 r S w cN ⟨⟩) ⟨⟩:=and_true _
theorem N2  {w0 s r hD fI j9}{t}:ft P w0 (.alt s r (.alt hD fI j9)) S w cN t=(qM P w0 s S w (fun S w=>ft P w0 r S w cN ⟨⟩) ⟨⟩∧ft P w0 (.alt hD fI j9) S w cN ⟨⟩):=propext Iff.rfl
theorem N3  {w0 s r hD fI j9}{t}:ft P w0 (.alt s r (.bT hD fI j9)) S w cN t=(qM P w0 s S w (fun S w=>ft P w0 r S w cN ⟨⟩) ⟨⟩∧ft P w0 (.bT hD fI j9) S w cN ⟨⟩):=propext Iff.rfl
theorem N5  {w0 s r}{t}:ft P w0 (.bT s r .nil) S w cN t=qX P s S w (fun S w=>ft P w0 r S w cN ⟨⟩) ⟨⟩:=and_true _
theorem N6  {w0 s r hD fI j9}{t}:ft P w0 (.bT s r (.alt hD fI j9)) S w cN t=(qX P s S w (fun S w=>ft P w0 r S w cN ⟨⟩) ⟨⟩∧ft P w0 (.alt hD fI j9) S w cN ⟨⟩):=propext Iff.rfl
theorem N7  {w0 s r hD fI j9}{t}:ft P w0 (.bT s r (.bT hD fI j9)) S w cN t=(qX P s S w (fun S w=>ft P w0 r S w cN ⟨⟩) ⟨⟩∧ft P w0 (.bT hD fI j9) S w cN ⟨⟩):=propext Iff.rfl
theorem N8  {d i}{t}:qX P ⟨d,none,i⟩ S w cN t=mj P i S w (fun v w'=>cN (put S d v) w') ⟨⟩:=propext Iff.rfl
theorem N9  {d j b i}{t}:qX P ⟨d,some (j,b),i⟩ S w cN t=ji (S j) b (mj P i (cc S j (.bool b)) w (fun v w'=>cN (put (cc S j (.bool b)) d v) w') ⟨⟩) (cN (put (cc S j (.bool (!b))) d undef) w) (cN (put S d undef) w) ⟨⟩:=propext Iff.rfl
theorem Oa  {w0 d i}{t}:yn P w0 ⟨d,none,i⟩ S gR t=nE P i S w0 (fun v=>gR (put S d v)) ⟨⟩:=propext Iff.rfl
theorem Ob  {w0 d j b i}{t}:yn P w0 ⟨d,some (j,b),i⟩ S gR t=ji (S j) b (nE P i (cc S j (.bool b)) w0 (fun v=>gR (put (cc S j (.bool b)) d v)) ⟨⟩) (gR (put (cc S j (.bool (!b))) d undef)) (gR (put S d undef)) ⟨⟩:=propext Iff.rfl
theorem Oc  {w0 d i}{t}:qM P w0 ⟨d,none,i⟩ S w cN t=o1 P i S w (fun v w'=>Ext w0 w'∧cN (put S d v) w') ⟨⟩:=propext Iff.rfl
theorem Od  {w0 d j b i}{t}:qM P w0 ⟨d,some (j,b),i⟩ S w cN t=ji (S j) b (o1 P i (cc S j (.bool b)) w (fun v w'=>Ext w0 w'∧cN (put (cc S j (.bool b)) d v) w') ⟨⟩) (cN (put (cc S j (.bool (!b))) d undef) w) (cN (put S d undef) w) ⟨⟩:=propext Iff.rfl
theorem cA  {a b}{t}:dR P (.seq a b) Q S w t=dR P a (hb (fun S w=>dR P b Q S w ⟨⟩) Q ⟨⟩) S w ⟨⟩:=propext Iff.rfl
theorem Oe  {c x y}{t}:dR P (.cond c x y) Q S w t=jV (bj S c) (dR P x Q S w ⟨⟩) (dR P y Q S w ⟨⟩) ⟨⟩:=propext Iff.rfl
theorem Of  {id b}{t}:dR P (.aQ id b) Q S w t=dR P b (pc id Q ⟨⟩) S w ⟨⟩:=propext Iff.rfl
theorem Og  {id}{t}:dR P (.exit id) Q S w t=Q (.exit id) S w:=propext Iff.rfl
theorem Oh  {t}:dR P .ret Q S w t=Q .ret S w:=propext Iff.rfl
theorem Oi  {b7 d f l}{t}:dR P (.e3 b7 d f l) Q S w t=jy P b7 S w (fun S w=>FG P f (l.map (bj S)) w (fun v w'=>Q .normal (put S d v) w') (fun c w'=>Q (.fA c) S w') ⟨⟩) ⟨⟩:=propext Iff.rfl
theorem Oj  {b7 x}{t}:dR P (.ql b7 x) Q S w t=jy P b7 S w (fun S w=>Bp (bj S x) (fun c=>Q (.fA c) S w) ⟨⟩) ⟨⟩:=propext Iff.rfl
theorem Ol  {i:TypeId}{v:Value}{t}:Bp (.iface i v) yW t=yW [{ v:=.iface i v,recovered:=false }]:=bt.ag9 i v yW
theorem Om  {c}{t}:hb N Q t (.fA c) S w=Q (.fA c) S w:=propext Iff.rfl
theorem On{i}{c}{t}:pc i Q t (.fA c) S w=Q (.fA c) S w:=propext Iff.rfl
theorem Oo{r}{t}:vf r R Z t .normal S w=ik r S w (fun vs=>R (gn vs) w) ⟨⟩:=propext Iff.rfl
theorem rI{r}{t}:vf r R Z t .ret S w=ik r S w (fun vs=>R (gn vs) w) ⟨⟩:=propext Iff.rfl
theorem Ou{r}{c}{t}:vf r R Z t (.fA c) S w=Z c w:=propext Iff.rfl
theorem Ov  {b}{t}:dR P (.loop b) Q S w t=wz P b Q S w ⟨⟩:=propext Iff.rfl
theorem Ow  {t}:hb N Q t .normal S w=N S w:=propext Iff.rfl
theorem Ox  {i}{t}:hb N Q t (.exit i) S w=Q (.exit i) S w:=propext Iff.rfl
theorem Oy  {t}:hb N Q t .ret S w=Q .ret S w:=propext Iff.rfl
theorem Oz{i}{t}:pc i Q t .normal S w=Q .normal S w:=propext Iff.rfl
theorem OA{i}{t}:pc i Q t .ret S w=Q .ret S w:=propext Iff.rfl
theorem OB{i}{j}{t}:pc i Q t (.exit j) S w=if j=i then Q .normal S w else Q (.exit j) S w:=propext Iff.rfl
theorem OC{r}{t}:qW r R t .normal S w=ik r S w (fun vs=>R (gn vs) w) ⟨⟩:=propext Iff.rfl
theorem wv{r}{t}:qW r R t .ret S w=ik r S w (fun vs=>R (gn vs) w) ⟨⟩:=propext Iff.rfl
theorem iF  {t}:jy P [] S w cN t=cN S w:=propext Iff.rfl
theorem c0  {d i r}{t}:jy P (⟨d,none,i⟩ :: r) S w cN t=mj P i S w (fun v w'=>jy P r (put S d v) w' cN ⟨⟩) ⟨⟩:=propext Iff.rfl
theorem eT  {d j b i r}{t}:jy P (⟨d,some (j,b),i⟩ :: r) S w cN t=ji (S j) b (mj P i (cc S j (.bool b)) w (fun v w'=>jy P r (put (cc S j (.bool b)) d v) w' cN ⟨⟩) ⟨⟩) (jy P r (put (cc S j (.bool (!b))) d undef) w cN ⟨⟩) (jy P r (put S d undef) w cN ⟨⟩) ⟨⟩:=propext Iff.rfl
theorem eb  {t}:lI P [] S w gR t=gR S:=propext Iff.rfl
theorem hg  {d i r}{t}:lI P (⟨d,none,i⟩ :: r) S w gR t=nE P i S w (fun v=>lI P r (put S d v) w gR ⟨⟩) ⟨⟩:=propext Iff.rfl
theorem kP  {d j b i r}{t}:lI P (⟨d,some (j,b),i⟩ :: r) S w gR t=ji (S j) b (nE P i (cc S j (.bool b)) w (fun v=>lI P r (put (cc S j (.bool b)) d v) w gR ⟨⟩) ⟨⟩) (lI P r (put (cc S j (.bool (!b))) d undef) w gR ⟨⟩) (lI P r (put S d undef) w gR ⟨⟩) ⟨⟩:=propext Iff.rfl
theorem jh  {i}{t}:o1 P (.p i) S w K t=eC P i S (fun v=>K v w) ⟨⟩:=propext Iff.rfl
theorem mX  {i}{t}:o1 P (.r i) S w K t=nF i S w (fun v=>K v w) ⟨⟩:=propext Iff.rfl
theorem gp  {i}{t}:o1 P (.e i) S w K t=hY P i S w K ⟨⟩:=propext Iff.rfl
theorem OH  {i}{t}:o1 P (.c i) S w K t=wk P i S w K ⟨⟩:=propext Iff.rfl
theorem OI  {i}{t}:mj P (.p i) S w K t=eC P i S (fun v=>K v w) ⟨⟩:=propext Iff.rfl
theorem OJ  {i}{t}:mj P (.r i) S w K t=nF i S w (fun v=>K v w) ⟨⟩:=propext Iff.rfl
theorem OK  {i}{t}:mj P (.e i) S w K t=hY P i S w K ⟨⟩:=propext Iff.rfl
theorem OL  {i}{t}:mj P (.c i) S w K t=wm P i S w K ⟨⟩:=propext Iff.rfl
theorem OM  {i}{t}:nE P (.p i) S w aE t=eC P i S aE ⟨⟩:=propext Iff.rfl
theorem ON  {i}{t}:nE P (.r i) S w aE t=nF i S w aE ⟨⟩:=propext Iff.rfl
theorem OO  {i}{t}:nE P (.c i) S w aE t=wF P i S w aE ⟨⟩:=propext Iff.rfl
theorem OP  {f l}{t}:wF P (.fn f l) S w aE t=FC P f (l.map (bj S)) w aE ⟨⟩:=propext Iff.rfl
theorem OQ  {x l}{t}:wF P (.val x l) S w aE t=Bq P (bj S x) (l.map (bj S)) w aE ⟨⟩:=propext Iff.rfl
theorem OR  {t}:ji (.bool true) true A B C t=A:=bt.abz A B C
theorem H1  {t}:ji (.bool true) false A B C t=B:=bt.aby A B C
theorem OS  {t}:ji (.bool false) true A B C t=B:=bt.abx A B C
theorem OT  {t}:ji (.bool false) false A B C t=A:=bt.abw A B C
theorem OU  (u:Bool){t}:ji undef u A B C t=C:=bt.abA u A B C
theorem OV  (u:Bool){t}:ji (.bool u) true A B C t=jV (.bool u) A B ⟨⟩:=(bt.Sz u true A B C).trans (by rfl)
theorem OW  (u:Bool){t}:ji (.bool u) false A B C t=jV (.bool u) B A ⟨⟩:=(bt.Sz u false A B C).trans (by rfl)
theorem OX  {t}:jV (.bool true) A B t=A:=Zt A B
theorem OY  {t}:jV (.bool false) A B t=B:=Zr A B
theorem OZ  (u:Bool){t}:jV (.bool (!u)) A B t=jV (.bool u) B A ⟨⟩:=Zs u A B
theorem O0  {x}{t}:eC P (.l7 x) S aE t=aE (bj S x):=propext Iff.rfl
theorem O1  {c x y}{t}:eC P (.pick c x y) S aE t=jV (bj S c) (aE (bj S x)) (aE (bj S y)) ⟨⟩:=propext Iff.rfl
theorem O2  {op ty x y}{t}:eC P (.bin op ty x y) S aE t=gj P op ty x y (bj S x) (bj S y) aE ⟨⟩:=propext Iff.rfl
theorem O3  {op x}{t}:eC P (.un op x) S aE t=wO op (bj S x) aE ⟨⟩:=propext Iff.rfl
theorem O4  {k x}{t}:eC P (.zj k x) S aE t=Ba k (bj S x) aE ⟨⟩:=propext Iff.rfl
theorem O5  {n x}{t}:eC P (.jK n x) S aE t=Be n (bj S x) aE ⟨⟩:=propext Iff.rfl
theorem O6  {n x y}{t}:eC P (.ib n x y) S aE t=yG n (bj S x) (bj S y) aE ⟨⟩:=propext Iff.rfl
theorem O7  {m n x y}{t}:eC P (.Ad m n x y) S aE t=Fl m n (bj S x) (bj S y) aE ⟨⟩:=propext Iff.rfl
theorem O8  {x y}{t}:eC P (.k9 x y) S aE t=Fp (bj S x) (bj S y) aE ⟨⟩:=propext Iff.rfl
theorem O9  {n x y}{t}:eC P (.vK n x y) S aE t=Fo n (bj S x) (bj S y) aE ⟨⟩:=propext Iff.rfl
theorem Pa  {n x}{t}:eC P (.jd n x) S aE t=Fj n (bj S x) aE ⟨⟩:=propext Iff.rfl
theorem Pb  {n m x}{t}:eC P (.Cr n m x) S aE t=Bf n m (bj S x) aE ⟨⟩:=propext Iff.rfl
theorem Pc  {z pl dr}{t}:eC P (.cP z pl dr) S aE t=Fa S z pl dr aE ⟨⟩:=propext Iff.rfl
theorem Pd  {f a b}{t}:eC P (.jv f a b) S aE t=aE (.func (.func f) (a.map (bj S)).toArray (b.map (bj S)).toArray):=propext Iff.rfl
theorem Pe  {n x bA af mx}{t}:eC P (.lj n x bA af mx) S aE t=yQ S n (bj S x) bA af mx aE ⟨⟩:=propext Iff.rfl
theorem Pf  {x bA af}{t}:eC P (.wa x bA af) S aE t=FF S (bj S x) bA af aE ⟨⟩:=propext Iff.rfl
theorem Pg  {x n}{t}:eC P (.ext x n) S aE t=sS (bj S x) n aE ⟨⟩:=propext Iff.rfl
theorem Ph  {x}{t}:eC P (.mN x) S aE t=Bi (bj S x) aE ⟨⟩:=propext Iff.rfl
theorem Pj  {x}{t}:eC P (.Aj x) S aE t=Bh (bj S x) aE ⟨⟩:=propext Iff.rfl
theorem Pk  {x}{t}:eC P (.BL x) S aE t=A8 (bj S x) aE ⟨⟩:=propext Iff.rfl
theorem Po  {v}{t}:eC P (.DK v) S aE t=aE v:=propext Iff.rfl
theorem Pp  {x y}{t}:eC P (.sE x y) S aE t=Bk (bj S x) (bj S y) aE ⟨⟩:=propext Iff.rfl
theorem M2  {x y}{t}:eC P (.um x y) S aE t=Bl (bj S x) (bj S y) aE ⟨⟩:=propext Iff.rfl
theorem Pq  {n x}{t}:eC P (.AB n x) S aE t=aE (.iface n (bj S x)):=propext Iff.rfl
theorem Pr  {x}{t}:eC P (.AG x) S aE t=wD (bj S x) aE ⟨⟩:=propext Iff.rfl
theorem Ps  {x}{t}:nF (.ld x) S w aE t=pM (bj S x) w aE ⟨⟩:=propext Iff.rfl
theorem Pt  {n x}{t}:nF (.j8 n x) S w aE t=sU n (bj S x) w aE ⟨⟩:=propext Iff.rfl
theorem Pu  {d z ok m k}{t}:nF (.l6 d z ok m k) S w aE t=yH d z ok (bj S m) (bj S k) w aE ⟨⟩:=propext Iff.rfl
theorem Pv  {x}{t}:nF (.x0 x) S w aE t=Fu (bj S x) w aE ⟨⟩:=propext Iff.rfl
theorem Pw  {n x}{t}:hY P (.box n x) S w K t=wB n (bj S x).cells w K ⟨⟩:=propext Iff.rfl
theorem Px  {n z}{t}:hY P (.new n z) S w K t=wB n z.cells w K ⟨⟩:=propext Iff.rfl
theorem Py  {x v}{t}:hY P (.st x v) S w K t=qF (bj S x) (bj S v) w (K undef) ⟨⟩:=propext Iff.rfl
theorem Pz  {n x v}{t}:hY P (.qs n x v) S w K t=yS n (bj S x) (bj S v) w (K undef) ⟨⟩:=propext Iff.rfl
theorem PA  {t}:hY P .rp S w K t=Fz w K ⟨⟩:=propext Iff.rfl
theorem PB  {e n b z l c}{t}:hY P (.pA e n b z l c) S w K t=yJ e n b z (bj S l) (bj S c) w K ⟨⟩:=propext Iff.rfl
theorem PC  {e l n z dr}{t}:hY P (.cQ e l n z dr) S w K t=A7 S e l n z dr w K ⟨⟩:=propext Iff.rfl
theorem PD  {ty e n b s x}{t}:hY P (.app ty e n b s x) S w K t=mg P ty e n b (bj S s) (bj S x) w K ⟨⟩:=propext Iff.rfl
theorem PE  {d m k v}{t}:hY P (.iQ d m k v) S w K t=wA d (bj S m) (bj S k) (bj S v) w (K undef) ⟨⟩:=propext Iff.rfl
theorem PF  {x}{t}:hY P (.vY x) S w K t=FE (bj S x) w K ⟨⟩:=propext Iff.rfl
theorem PG  {x}{t}:hY P (.vS x) S w K t=FA (bj S x) w K ⟨⟩:=propext Iff.rfl
theorem PK  {op ty}{t}:hY P (.raw op ty) S w K t=sZ P op ty S w K ⟨⟩:=propext Iff.rfl
theorem PL  {f l}{t}:wk P (.fn f l) S w K t=yA P f (l.map (bj S)) w K ⟨⟩:=propext Iff.rfl
theorem PM  {x l}{t}:wk P (.val x l) S w K t=uQ P (bj S x) (l.map (bj S)) w K ⟨⟩:=propext Iff.rfl
theorem PN  {f l}{t}:wm P (.fn f l) S w K t=yA P f (l.map (bj S)) w K ⟨⟩:=propext Iff.rfl
theorem PO  {x l}{t}:wm P (.val x l) S w K t=wo P (bj S x) (l.map (bj S)) w K ⟨⟩:=propext Iff.rfl
theorem PQ  {ty cV c3}(k:IntKind)(a b:Int){t}:gj P .lss ty cV c3 (.int k a) (.int k b) aE t=aE (.bool (decide (a<b))):=Y1 k a b
theorem PR  {ty cV c3}(k:IntKind)(a b:Int){t}:gj P .leq ty cV c3 (.int k a) (.int k b) aE t=aE (.bool (decide (a≤b))):=Y0 k a b
theorem PS  {ty cV c3}(k:IntKind)(a b:Int){t}:gj P .gtr ty cV c3 (.int k a) (.int k b) aE t=aE (.bool (decide (b<a))):=YZ k a b
theorem PT  {ty cV c3}(k:IntKind)(a b:Int){t}:gj P .geq ty cV c3 (.int k a) (.int k b) aE t=aE (.bool (decide (b≤a))):=YY k a b
theorem PU  {ty cV c3}(k:IntKind)(a b:Int){t}:gj P .eql ty cV c3 (.int k a) (.int k b) aE t=aE (.bool (decide (a=b))):=YX k a b
theorem PV  {ty cV c3}(k:IntKind)(a b:Int){t}:gj P .neq ty cV c3 (.int k a) (.int k b) aE t=aE (.bool (!decide (a=b))):=(Y3 k a b).trans (by simp)
theorem PW  {ty cV c3}(k:IntKind)(a b:Int){t}:gj P .add ty cV c3 (.int k a) (.int k b) aE t=nH k (a+b) aE ⟨⟩:=I5 k a b
theorem PX  {ty cV c3}(k:IntKind)(a b:Int){t}:gj P .sub ty cV c3 (.int k a) (.int k b) aE t=nH k (a - b) aE ⟨⟩:=Y8 k a b
theorem PY  {ty cV c3}(k:IntKind)(a b:Int){t}:gj P .mul ty cV c3 (.int k a) (.int k b) aE t=nH k (a*b) aE ⟨⟩:=Y2 k a b
theorem PZ  {ty cV c3}(a b:ByteArray){t}:gj P .eql ty cV c3 (.string a) (.string b) aE t=aE (.bool (decide (a=b))):=Y6 a b
theorem P0  {ty cV c3}(a b:ByteArray){t}:gj P .neq ty cV c3 (.string a) (.string b) aE t=aE (.bool (!decide (a=b))):=(Y7 a b).trans (by simp)
theorem P1  (b:Bool){t}:wO .not (.bool b) aE t=aE (.bool (!b)):=propext Iff.rfl
theorem P2  (k:IntKind)(n:Int){t}:wO .neg (.int k n) aE t=nH k (0 - n) aE ⟨⟩:=propext Iff.rfl
theorem P3  (k q:IntKind)(n:Int){t}:Ba k (.int q n) aE t=nH k n aE ⟨⟩:=Z5 k q n aE
theorem P4  (n:Nat)(a:Addr){t}:Be n (.pointer (some a)) aE t=aE (.pointer (some (a.add n))):=abi n a aE
theorem P6  (v:Value)(vs:List Value){t}:sS (.tuple (v :: vs).toArray) 0 aE t=aE v:=aa9 v vs aE
theorem Bs  (v u:Value)(vs:List Value){t}:sS (.tuple (v :: u :: vs).toArray) 1 aE t=aE u:=aba v u vs aE
theorem Bt  (v u x:Value)(vs:List Value){t}:sS (.tuple (v :: u :: x :: vs).toArray) 2 aE t=aE x:=abb v u x vs aE
theorem P7  (s:ByteArray){t}:Bi (.string s) aE t=aE (.int .i64 s.size):=afG s aE
theorem P8  (a:Option Addr)(n c:Nat){t}:Bh (.slice a n c) aE t=aE (.int .i64 n):=afE a n c aE
theorem P9  (a:Option Addr)(n c:Nat){t}:A8 (.slice a n c) aE t=aE (.int .i64 c):=Zm a n c aE
theorem Qa  (k q:IntKind)(a b:Int){t}:Bk (.int k a) (.int q b) aE t=aE (.int k (max a b)):=afY k q a b aE
theorem Qb  (k q:IntKind)(a b:Int){t}:Bl (.int k a) (.int q b) aE t=aE (.int k (min a b)):=af2 k q a b aE
theorem Qc  (m n:Nat)(cs:Array Value){t}:Bf m n (.agg cs) aE t=aE (.agg (cs.extract m (m+n))):=abn m n cs aE
theorem Qd  (a:Addr){t}:wD (.pointer (some a)) aE t=aE (.pointer (some a)):=propext Iff.rfl
theorem Qk  (f:FuncId)(a b:Array Value){t}:wD (.func (.func f) a b) aE t=aE (.func (.func f) a b):=propext Iff.rfl
theorem Ql  {t}:ik [] S w kS t=kS []:=propext Iff.rfl
theorem Qm  {n r}{t}:ik (.tmp n :: r) S w kS t=ik r S w (fun vs=>kS (S n :: vs)) ⟨⟩:=propext Iff.rfl
theorem Qn  {n r}{t}:ik (.cell n :: r) S w kS t=pM (S n) w (fun v=>ik r S w (fun vs=>kS (v :: vs)) ⟨⟩) ⟨⟩:=propext Iff.rfl
theorem Qo  {m n r}{t}:ik (.ja m n :: r) S w kS t=sU m (S n) w (fun v=>ik r S w (fun vs=>kS (v :: vs)) ⟨⟩) ⟨⟩:=propext Iff.rfl
theorem Qp{S:Fr}{d:Nat}{v:Value}:put S (some d) v=cc S d v:=eq_of_heq (heq_of_eq (gd S d v))
theorem Qq{S:Fr}{v:Value}:put S none v=S:=eq_of_heq (heq_of_eq (V6 S v))
theorem Qr{S:Fr}{d t:Nat}{v:Value}:cc S d v t=if t=d then v else S t:=eq_of_heq (heq_of_eq (b6 S d t v))
theorem Qs{S:Fr}{t:Nat}:bj S (.tmp t)=S t:=eq_of_heq (heq_of_eq (fD S t))
theorem Qt{S:Fr}{v:Value}:bj S (.const v)=v:=eq_of_heq (heq_of_eq (oB S v))
theorem Qv{S:Fr}{g:Nat}:bj S (.global g) = .pointer (some ⟨g,0,none⟩):=eq_of_heq (heq_of_eq (aaO S g))
theorem Qw{S:Fr}{f:Nat}:bj S (.func f) = .func (.func f) #[] #[]:=eq_of_heq (heq_of_eq (tk S f))
theorem Qx{k:Nat}:hL [] k=fun _=>undef:=eq_of_heq (heq_of_eq (my k))
theorem Qy{v:Value}{vs:List Value}{k:Nat}:hL (v :: vs) k=cc (hL vs (k+1)) k v:=eq_of_heq (heq_of_eq (jr v vs k))
theorem Qz  : gn [] = .tuple #[]:=eq_of_heq (heq_of_eq (ajq ..))
theorem QA  (v:Value):gn [v]=v:=eq_of_heq (heq_of_eq (ajr ..))
theorem QB  (v u:Value):gn [v,u] = .tuple #[v,u]:=eq_of_heq (heq_of_eq (ajs ..))
theorem QC  (v u x:Value):gn [v,u,x] = .tuple #[v,u,x]:=eq_of_heq (heq_of_eq (ajt ..))
theorem QD  (a:Option Addr)(n c:Nat):(Value.slice a n c).cells=#[.slice a n c]:=eq_of_heq (heq_of_eq (ZF ..))
theorem QE  (k:IntKind)(n:Int):(Value.int k n).cells=#[.int k n]:=eq_of_heq (heq_of_eq (ZA ..))
theorem QF  (b:Bool):(Value.bool b).cells=#[.bool b]:=eq_of_heq (heq_of_eq (Zx ..))
theorem QG  (s:ByteArray):(Value.string s).cells=#[.string s]:=eq_of_heq (heq_of_eq (ZG ..))
theorem QH  (a:Option Addr):(Value.pointer a).cells=#[.pointer a]:=eq_of_heq (heq_of_eq (ZE ..))
theorem QI  (a:Option Nat):(Value.map a).cells=#[.map a]:=eq_of_heq (heq_of_eq (ZB ..))
theorem QJ  (f:Fn)(a b:Array Value):(Value.func f a b).cells=#[.func f a b]:=eq_of_heq (heq_of_eq (Zz ..))
theorem QK  (cs:Array Value):(Value.agg cs).cells=cs:=eq_of_heq (heq_of_eq (Zw ..))
theorem QL{α β:Type}{f:α→β}{a:α}{l:List α}:(a :: l).map f=f a :: l.map f:=eq_of_heq (heq_of_eq (List.map_cons))
theorem QM{α β:Type}{f:α→β}:([]:List α).map f=[]:=eq_of_heq (heq_of_eq (List.map_nil))
theorem QN  : (!true)=false:=eq_of_heq (heq_of_eq (Bool.not_true))
theorem QO  : (!false)=true:=eq_of_heq (heq_of_eq (Bool.not_false))
theorem QP{h:Decidable True}:decide True=true:=eq_of_heq (heq_of_eq (decide_true h))
theorem hI{h:Decidable False}:decide False=false:=eq_of_heq (heq_of_eq (decide_false h))
theorem eE{α:Type}{a b:α}{h:Decidable True}:(if True then a else b)=a:=eq_of_heq (heq_of_eq (if_true a b))
theorem mu{α:Type}{a b:α}{h:Decidable False}:(if False then a else b)=b:=eq_of_heq (heq_of_eq (if_false a b))
end
theorem c6:((((((((∀{P:Program} {Q:dS→Fr→World→Prop} {S:Fr} {w:World}  {t},dR P .skip Q S w t=Q .normal S w) ∧
(∀{P:Program} {Q:dS→Fr→World→Prop} {S:Fr} {w:World}  {b7} {t},dR P (.bF b7) Q S w t=jy P b7 S w (fun S w=>Q .normal S w) ⟨⟩)) ∧
((∀{P:Program} {Q:dS→Fr→World→Prop} {S:Fr} {w:World}  {b7} {t},dR P (.ec b7) Q S w t=lI P b7 S w (fun S => ∀w',Ext w w'→Q .normal S w') ⟨⟩) ∧
((∀{P:Program} {Q:dS→Fr→World→Prop} {S:Fr} {w:World}  {x} {t},dR P (.dW x) Q S w t=(∀aq,Ext w aq→ft P aq x S aq (fun S w=>Q .normal S w) ⟨⟩)) ∧
(∀{P:Program} {cN:Fr→World→Prop} {S:Fr} {w:World}  {w0} {t},ft P w0 .done S w cN t=cN S w)))) ∧
(((∀{P:Program} {cN:Fr→World→Prop} {S:Fr} {w:World}  {w0} {t},ft P w0 .nil S w cN t=True) ∧
(∀{P:Program} {cN:Fr→World→Prop} {S:Fr} {w:World}  {w0 s r} {t},ft P w0 (.take s r) S w cN t=yn P w0 s S (fun S=>ft P w0 r S w cN ⟨⟩) ⟨⟩)) ∧
((∀{P:Program} {cN:Fr→World→Prop} {S:Fr} {w:World}  {w0 s r} {t},ft P w0 (.alt s r .nil) S w cN t=qM P w0 s S w (fun S w=>ft P w0 r S w cN ⟨⟩) ⟨⟩) ∧
((∀{P:Program} {cN:Fr→World→Prop} {S:Fr} {w:World}  {w0 s r hD fI j9} {t},ft P w0 (.alt s r (.alt hD fI j9)) S w cN t=(qM P w0 s S w (fun S w=>ft P w0 r S w cN ⟨⟩) ⟨⟩∧ft P w0 (.alt hD fI j9) S w cN ⟨⟩)) ∧
(∀{P:Program} {cN:Fr→World→Prop} {S:Fr} {w:World}  {w0 s r hD fI j9} {t},ft P w0 (.alt s r (.bT hD fI j9)) S w cN t=(qM P w0 s S w (fun S w=>ft P w0 r S w cN ⟨⟩) ⟨⟩∧ft P w0 (.bT hD fI j9) S w cN ⟨⟩)))))) ∧
((((∀{P:Program} {cN:Fr→World→Prop} {S:Fr} {w:World}  {w0 s r} {t},ft P w0 (.bT s r .nil) S w cN t=qX P s S w (fun S w=>ft P w0 r S w cN ⟨⟩) ⟨⟩) ∧
(∀{P:Program} {cN:Fr→World→Prop} {S:Fr} {w:World}  {w0 s r hD fI j9} {t},ft P w0 (.bT s r (.alt hD fI j9)) S w cN t=(qX P s S w (fun S w=>ft P w0 r S w cN ⟨⟩) ⟨⟩∧ft P w0 (.alt hD fI j9) S w cN ⟨⟩))) ∧
((∀{P:Program} {cN:Fr→World→Prop} {S:Fr} {w:World}  {w0 s r hD fI j9} {t},ft P w0 (.bT s r (.bT hD fI j9)) S w cN t=(qX P s S w (fun S w=>ft P w0 r S w cN ⟨⟩) ⟨⟩∧ft P w0 (.bT hD fI j9) S w cN ⟨⟩)) ∧
((∀{P:Program} {cN:Fr→World→Prop} {S:Fr} {w:World}  {d i} {t},qX P ⟨d,none,i⟩ S w cN t=mj P i S w (fun v w'=>cN (put S d v) w') ⟨⟩) ∧
(∀{P:Program} {cN:Fr→World→Prop} {S:Fr} {w:World}  {d j b i} {t},qX P ⟨d,some (j,b),i⟩ S w cN t=ji (S j) b (mj P i (cc S j (.bool b)) w (fun v w'=>cN (put (cc S j (.bool b)) d v) w') ⟨⟩) (cN (put (cc S j (.bool (!b))) d undef) w) (cN (put S d undef) w) ⟨⟩)))) ∧
(((∀{P:Program} {gR:Fr→Prop} {S:Fr}  {w0 d i} {t},yn P w0 ⟨d,none,i⟩ S gR t=nE P i S w0 (fun v=>gR (put S d v)) ⟨⟩) ∧
((∀{P:Program} {gR:Fr→Prop} {S:Fr}  {w0 d j b i} {t},yn P w0 ⟨d,some (j,b),i⟩ S gR t=ji (S j) b (nE P i (cc S j (.bool b)) w0 (fun v=>gR (put (cc S j (.bool b)) d v)) ⟨⟩) (gR (put (cc S j (.bool (!b))) d undef)) (gR (put S d undef)) ⟨⟩) ∧
(∀{P:Program} {cN:Fr→World→Prop} {S:Fr} {w:World}  {w0 d i} {t},qM P w0 ⟨d,none,i⟩ S w cN t=o1 P i S w (fun v w'=>Ext w0 w'∧cN (put S d v) w') ⟨⟩))) ∧
((∀{P:Program} {cN:Fr→World→Prop} {S:Fr} {w:World}  {w0 d j b i} {t},qM P w0 ⟨d,some (j,b),i⟩ S w cN t=ji (S j) b (o1 P i (cc S j (.bool b)) w (fun v w'=>Ext w0 w'∧cN (put (cc S j (.bool b)) d v) w') ⟨⟩) (cN (put (cc S j (.bool (!b))) d undef) w) (cN (put S d undef) w) ⟨⟩) ∧
((∀{P:Program} {Q:dS→Fr→World→Prop} {S:Fr} {w:World}  {c x y} {t},dR P (.cond c x y) Q S w t=jV (bj S c) (dR P x Q S w ⟨⟩) (dR P y Q S w ⟨⟩) ⟨⟩) ∧
(∀{P:Program} {Q:dS→Fr→World→Prop} {S:Fr} {w:World}  {id b} {t},dR P (.aQ id b) Q S w t=dR P b (pc id Q ⟨⟩) S w ⟨⟩)))))) ∧
(((((∀{P:Program} {Q:dS→Fr→World→Prop} {S:Fr} {w:World}  {id} {t},dR P (.exit id) Q S w t=Q (.exit id) S w) ∧
(∀{P:Program} {Q:dS→Fr→World→Prop} {S:Fr} {w:World}  {t},dR P .ret Q S w t=Q .ret S w)) ∧
((∀{P:Program} {Q:dS→Fr→World→Prop} {S:Fr} {w:World}  {b7 d f l} {t},dR P (.e3 b7 d f l) Q S w t=jy P b7 S w (fun S w=>FG P f (l.map (bj S)) w (fun v w'=>Q .normal (put S d v) w') (fun c w'=>Q (.fA c) S w') ⟨⟩) ⟨⟩) ∧
((∀{P:Program} {Q:dS→Fr→World→Prop} {S:Fr} {w:World}  {b7 x} {t},dR P (.ql b7 x) Q S w t=jy P b7 S w (fun S w=>Bp (bj S x) (fun c=>Q (.fA c) S w) ⟨⟩) ⟨⟩) ∧
(∀{yW:List PanicEntry→Prop}  {i:TypeId} {v:Value} {t},Bp (.iface i v) yW t=yW [{ v:=.iface i v,recovered:=false }])))) ∧
(((∀{Q:dS→Fr→World→Prop} {N:Fr→World→Prop} {S:Fr} {w:World}  {c} {t},hb N Q t (.fA c) S w=Q (.fA c) S w) ∧
((∀{Q:dS→Fr→World→Prop} {S:Fr} {w:World} {i} {c} {t},pc i Q t (.fA c) S w=Q (.fA c) S w) ∧
(∀{Z:List PanicEntry→World→Prop} {R:Value→World→Prop} {S:Fr} {w:World} {r} {t},vf r R Z t .normal S w=ik r S w (fun vs=>R (gn vs) w) ⟨⟩))) ∧
((∀{Z:List PanicEntry→World→Prop} {R:Value→World→Prop} {S:Fr} {w:World} {r} {t},vf r R Z t .ret S w=ik r S w (fun vs=>R (gn vs) w) ⟨⟩) ∧
((∀{Z:List PanicEntry→World→Prop} {R:Value→World→Prop} {S:Fr} {w:World} {r} {c} {t},vf r R Z t (.fA c) S w=Z c w) ∧
(∀{P:Program} {Q:dS→Fr→World→Prop} {S:Fr} {w:World}  {b} {t},dR P (.loop b) Q S w t=wz P b Q S w ⟨⟩))))) ∧
((((∀{Q:dS→Fr→World→Prop} {N:Fr→World→Prop} {S:Fr} {w:World}  {t},hb N Q t .normal S w=N S w) ∧
(∀{Q:dS→Fr→World→Prop} {N:Fr→World→Prop} {S:Fr} {w:World}  {i} {t},hb N Q t (.exit i) S w=Q (.exit i) S w)) ∧
((∀{Q:dS→Fr→World→Prop} {N:Fr→World→Prop} {S:Fr} {w:World}  {t},hb N Q t .ret S w=Q .ret S w) ∧
((∀{Q:dS→Fr→World→Prop} {S:Fr} {w:World} {i} {t},pc i Q t .normal S w=Q .normal S w) ∧
(∀{Q:dS→Fr→World→Prop} {S:Fr} {w:World} {i} {t},pc i Q t .ret S w=Q .ret S w)))) ∧
(((∀{Q:dS→Fr→World→Prop} {S:Fr} {w:World} {i} {j} {t},pc i Q t (.exit j) S w=if j=i then Q .normal S w else Q (.exit j) S w) ∧
((∀{R:Value→World→Prop} {S:Fr} {w:World} {r} {t},qW r R t .normal S w=ik r S w (fun vs=>R (gn vs) w) ⟨⟩) ∧
(∀{R:Value→World→Prop} {S:Fr} {w:World} {r} {t},qW r R t .ret S w=ik r S w (fun vs=>R (gn vs) w) ⟨⟩))) ∧
((∀{P:Program} {cN:Fr→World→Prop} {S:Fr} {w:World}  {t},jy P [] S w cN t=cN S w) ∧
((∀{P:Program} {cN:Fr→World→Prop} {S:Fr} {w:World}  {d i r} {t},jy P (⟨d,none,i⟩ :: r) S w cN t=mj P i S w (fun v w'=>jy P r (put S d v) w' cN ⟨⟩) ⟨⟩) ∧
(∀{P:Program} {cN:Fr→World→Prop} {S:Fr} {w:World}  {d j b i r} {t},jy P (⟨d,some (j,b),i⟩ :: r) S w cN t=ji (S j) b (mj P i (cc S j (.bool b)) w (fun v w'=>jy P r (put (cc S j (.bool b)) d v) w' cN ⟨⟩) ⟨⟩) (jy P r (put (cc S j (.bool (!b))) d undef) w cN ⟨⟩) (jy P r (put S d undef) w cN ⟨⟩) ⟨⟩))))))) ∧
((((((∀{P:Program} {gR:Fr→Prop} {S:Fr} {w:World}  {t},lI P [] S w gR t=gR S) ∧
(∀{P:Program} {gR:Fr→Prop} {S:Fr} {w:World}  {d i r} {t},lI P (⟨d,none,i⟩ :: r) S w gR t=nE P i S w (fun v=>lI P r (put S d v) w gR ⟨⟩) ⟨⟩)) ∧
((∀{P:Program} {gR:Fr→Prop} {S:Fr} {w:World}  {d j b i r} {t},lI P (⟨d,some (j,b),i⟩ :: r) S w gR t=ji (S j) b (nE P i (cc S j (.bool b)) w (fun v=>lI P r (put (cc S j (.bool b)) d v) w gR ⟨⟩) ⟨⟩) (lI P r (put (cc S j (.bool (!b))) d undef) w gR ⟨⟩) (lI P r (put S d undef) w gR ⟨⟩) ⟨⟩) ∧
((∀{P:Program} {K:Value→World→Prop} {S:Fr} {w:World}  {i} {t},o1 P (.p i) S w K t=eC P i S (fun v=>K v w) ⟨⟩) ∧
(∀{P:Program} {K:Value→World→Prop} {S:Fr} {w:World}  {i} {t},o1 P (.r i) S w K t=nF i S w (fun v=>K v w) ⟨⟩)))) ∧
(((∀{P:Program} {K:Value→World→Prop} {S:Fr} {w:World}  {i} {t},o1 P (.e i) S w K t=hY P i S w K ⟨⟩) ∧
(∀{P:Program} {K:Value→World→Prop} {S:Fr} {w:World}  {i} {t},o1 P (.c i) S w K t=wk P i S w K ⟨⟩)) ∧
((∀{P:Program} {K:Value→World→Prop} {S:Fr} {w:World}  {i} {t},mj P (.p i) S w K t=eC P i S (fun v=>K v w) ⟨⟩) ∧
((∀{P:Program} {K:Value→World→Prop} {S:Fr} {w:World}  {i} {t},mj P (.r i) S w K t=nF i S w (fun v=>K v w) ⟨⟩) ∧
(∀{P:Program} {K:Value→World→Prop} {S:Fr} {w:World}  {i} {t},mj P (.e i) S w K t=hY P i S w K ⟨⟩))))) ∧
((((∀{P:Program} {K:Value→World→Prop} {S:Fr} {w:World}  {i} {t},mj P (.c i) S w K t=wm P i S w K ⟨⟩) ∧
(∀{P:Program} {aE:Value→Prop} {S:Fr} {w:World}  {i} {t},nE P (.p i) S w aE t=eC P i S aE ⟨⟩)) ∧
((∀{P:Program} {aE:Value→Prop} {S:Fr} {w:World}  {i} {t},nE P (.r i) S w aE t=nF i S w aE ⟨⟩) ∧
((∀{P:Program} {aE:Value→Prop} {S:Fr} {w:World}  {i} {t},nE P (.c i) S w aE t=wF P i S w aE ⟨⟩) ∧
(∀{P:Program} {aE:Value→Prop} {S:Fr} {w:World}  {f l} {t},wF P (.fn f l) S w aE t=FC P f (l.map (bj S)) w aE ⟨⟩)))) ∧
(((∀{P:Program} {aE:Value→Prop} {S:Fr} {w:World}  {x l} {t},wF P (.val x l) S w aE t=Bq P (bj S x) (l.map (bj S)) w aE ⟨⟩) ∧
((∀{A:Prop} {B:Prop} {C:Prop}  {t},ji (.bool true) true A B C t=A) ∧
(∀{A:Prop} {B:Prop} {C:Prop}  {t},ji (.bool true) false A B C t=B))) ∧
((∀{A:Prop} {B:Prop} {C:Prop}  {t},ji (.bool false) true A B C t=B) ∧
((∀{A:Prop} {B:Prop} {C:Prop}  {t},ji (.bool false) false A B C t=A) ∧
(∀{A:Prop} {B:Prop} {C:Prop}  (u:Bool) {t},ji undef u A B C t=C)))))) ∧
(((((∀{A:Prop} {B:Prop} {C:Prop}  (u:Bool) {t},ji (.bool u) true A B C t=jV (.bool u) A B ⟨⟩) ∧
(∀{A:Prop} {B:Prop} {C:Prop}  (u:Bool) {t},ji (.bool u) false A B C t=jV (.bool u) B A ⟨⟩)) ∧
((∀{A:Prop} {B:Prop}  {t},jV (.bool true) A B t=A) ∧
((∀{A:Prop} {B:Prop}  {t},jV (.bool false) A B t=B) ∧
(∀{A:Prop} {B:Prop}  (u:Bool) {t},jV (.bool (!u)) A B t=jV (.bool u) B A ⟨⟩)))) ∧
(((∀{P:Program} {aE:Value→Prop} {S:Fr}  {x} {t},eC P (.l7 x) S aE t=aE (bj S x)) ∧
((∀{P:Program} {aE:Value→Prop} {S:Fr}  {c x y} {t},eC P (.pick c x y) S aE t=jV (bj S c) (aE (bj S x)) (aE (bj S y)) ⟨⟩) ∧
(∀{P:Program} {aE:Value→Prop} {S:Fr}  {op ty x y} {t},eC P (.bin op ty x y) S aE t=gj P op ty x y (bj S x) (bj S y) aE ⟨⟩))) ∧
((∀{P:Program} {aE:Value→Prop} {S:Fr}  {op x} {t},eC P (.un op x) S aE t=wO op (bj S x) aE ⟨⟩) ∧
((∀{P:Program} {aE:Value→Prop} {S:Fr}  {k x} {t},eC P (.zj k x) S aE t=Ba k (bj S x) aE ⟨⟩) ∧
(∀{P:Program} {aE:Value→Prop} {S:Fr}  {n x} {t},eC P (.jK n x) S aE t=Be n (bj S x) aE ⟨⟩))))) ∧
((((∀{P:Program} {aE:Value→Prop} {S:Fr}  {n x y} {t},eC P (.ib n x y) S aE t=yG n (bj S x) (bj S y) aE ⟨⟩) ∧
(∀{P:Program} {aE:Value→Prop} {S:Fr}  {m n x y} {t},eC P (.Ad m n x y) S aE t=Fl m n (bj S x) (bj S y) aE ⟨⟩)) ∧
((∀{P:Program} {aE:Value→Prop} {S:Fr}  {x y} {t},eC P (.k9 x y) S aE t=Fp (bj S x) (bj S y) aE ⟨⟩) ∧
((∀{P:Program} {aE:Value→Prop} {S:Fr}  {n x y} {t},eC P (.vK n x y) S aE t=Fo n (bj S x) (bj S y) aE ⟨⟩) ∧
(∀{P:Program} {aE:Value→Prop} {S:Fr}  {n x} {t},eC P (.jd n x) S aE t=Fj n (bj S x) aE ⟨⟩)))) ∧
(((∀{P:Program} {aE:Value→Prop} {S:Fr}  {n m x} {t},eC P (.Cr n m x) S aE t=Bf n m (bj S x) aE ⟨⟩) ∧
((∀{P:Program} {aE:Value→Prop} {S:Fr}  {z pl dr} {t},eC P (.cP z pl dr) S aE t=Fa S z pl dr aE ⟨⟩) ∧
(∀{P:Program} {aE:Value→Prop} {S:Fr}  {f a b} {t},eC P (.jv f a b) S aE t=aE (.func (.func f) (a.map (bj S)).toArray (b.map (bj S)).toArray)))) ∧
((∀{P:Program} {aE:Value→Prop} {S:Fr}  {n x bA af mx} {t},eC P (.lj n x bA af mx) S aE t=yQ S n (bj S x) bA af mx aE ⟨⟩) ∧
((∀{P:Program} {aE:Value→Prop} {S:Fr}  {x bA af} {t},eC P (.wa x bA af) S aE t=FF S (bj S x) bA af aE ⟨⟩) ∧
(∀{P:Program} {aE:Value→Prop} {S:Fr}  {x n} {t},eC P (.ext x n) S aE t=sS (bj S x) n aE ⟨⟩)))))))) ∧
(((((((∀{P:Program} {aE:Value→Prop} {S:Fr}  {x} {t},eC P (.mN x) S aE t=Bi (bj S x) aE ⟨⟩) ∧
(∀{P:Program} {aE:Value→Prop} {S:Fr}  {x} {t},eC P (.Aj x) S aE t=Bh (bj S x) aE ⟨⟩)) ∧
((∀{P:Program} {aE:Value→Prop} {S:Fr}  {x} {t},eC P (.BL x) S aE t=A8 (bj S x) aE ⟨⟩) ∧
((∀{P:Program} {aE:Value→Prop} {S:Fr}  {v} {t},eC P (.DK v) S aE t=aE v) ∧
(∀{P:Program} {aE:Value→Prop} {S:Fr}  {x y} {t},eC P (.sE x y) S aE t=Bk (bj S x) (bj S y) aE ⟨⟩)))) ∧
(((∀{P:Program} {aE:Value→Prop} {S:Fr}  {x y} {t},eC P (.um x y) S aE t=Bl (bj S x) (bj S y) aE ⟨⟩) ∧
(∀{P:Program} {aE:Value→Prop} {S:Fr}  {n x} {t},eC P (.AB n x) S aE t=aE (.iface n (bj S x)))) ∧
((∀{P:Program} {aE:Value→Prop} {S:Fr}  {x} {t},eC P (.AG x) S aE t=wD (bj S x) aE ⟨⟩) ∧
((∀{aE:Value→Prop} {S:Fr} {w:World}  {x} {t},nF (.ld x) S w aE t=pM (bj S x) w aE ⟨⟩) ∧
(∀{aE:Value→Prop} {S:Fr} {w:World}  {n x} {t},nF (.j8 n x) S w aE t=sU n (bj S x) w aE ⟨⟩))))) ∧
((((∀{aE:Value→Prop} {S:Fr} {w:World}  {d z ok m k} {t},nF (.l6 d z ok m k) S w aE t=yH d z ok (bj S m) (bj S k) w aE ⟨⟩) ∧
(∀{aE:Value→Prop} {S:Fr} {w:World}  {x} {t},nF (.x0 x) S w aE t=Fu (bj S x) w aE ⟨⟩)) ∧
((∀{P:Program} {K:Value→World→Prop} {S:Fr} {w:World}  {n x} {t},hY P (.box n x) S w K t=wB n (bj S x).cells w K ⟨⟩) ∧
((∀{P:Program} {K:Value→World→Prop} {S:Fr} {w:World}  {n z} {t},hY P (.new n z) S w K t=wB n z.cells w K ⟨⟩) ∧
(∀{P:Program} {K:Value→World→Prop} {S:Fr} {w:World}  {x v} {t},hY P (.st x v) S w K t=qF (bj S x) (bj S v) w (K undef) ⟨⟩)))) ∧
(((∀{P:Program} {K:Value→World→Prop} {S:Fr} {w:World}  {n x v} {t},hY P (.qs n x v) S w K t=yS n (bj S x) (bj S v) w (K undef) ⟨⟩) ∧
((∀{P:Program} {K:Value→World→Prop} {S:Fr} {w:World}  {t},hY P .rp S w K t=Fz w K ⟨⟩) ∧
(∀{P:Program} {K:Value→World→Prop} {S:Fr} {w:World}  {e n b z l c} {t},hY P (.pA e n b z l c) S w K t=yJ e n b z (bj S l) (bj S c) w K ⟨⟩))) ∧
((∀{P:Program} {K:Value→World→Prop} {S:Fr} {w:World}  {e l n z dr} {t},hY P (.cQ e l n z dr) S w K t=A7 S e l n z dr w K ⟨⟩) ∧
((∀{P:Program} {K:Value→World→Prop} {S:Fr} {w:World}  {ty e n b s x} {t},hY P (.app ty e n b s x) S w K t=mg P ty e n b (bj S s) (bj S x) w K ⟨⟩) ∧
(∀{P:Program} {K:Value→World→Prop} {S:Fr} {w:World}  {d m k v} {t},hY P (.iQ d m k v) S w K t=wA d (bj S m) (bj S k) (bj S v) w (K undef) ⟨⟩)))))) ∧
(((((∀{P:Program} {K:Value→World→Prop} {S:Fr} {w:World}  {x} {t},hY P (.vY x) S w K t=FE (bj S x) w K ⟨⟩) ∧
(∀{P:Program} {K:Value→World→Prop} {S:Fr} {w:World}  {x} {t},hY P (.vS x) S w K t=FA (bj S x) w K ⟨⟩)) ∧
((∀{P:Program} {K:Value→World→Prop} {S:Fr} {w:World}  {op ty} {t},hY P (.raw op ty) S w K t=sZ P op ty S w K ⟨⟩) ∧
((∀{P:Program} {K:Value→World→Prop} {S:Fr} {w:World}  {f l} {t},wk P (.fn f l) S w K t=yA P f (l.map (bj S)) w K ⟨⟩) ∧
(∀{P:Program} {K:Value→World→Prop} {S:Fr} {w:World}  {x l} {t},wk P (.val x l) S w K t=uQ P (bj S x) (l.map (bj S)) w K ⟨⟩)))) ∧
(((∀{P:Program} {K:Value→World→Prop} {S:Fr} {w:World}  {f l} {t},wm P (.fn f l) S w K t=yA P f (l.map (bj S)) w K ⟨⟩) ∧
((∀{P:Program} {K:Value→World→Prop} {S:Fr} {w:World}  {x l} {t},wm P (.val x l) S w K t=wo P (bj S x) (l.map (bj S)) w K ⟨⟩) ∧
(∀{P:Program} {aE:Value→Prop}  {ty cV c3} (k:IntKind) (a b:Int) {t},gj P .lss ty cV c3 (.int k a) (.int k b) aE t=aE (.bool (decide (a<b)))))) ∧
((∀{P:Program} {aE:Value→Prop}  {ty cV c3} (k:IntKind) (a b:Int) {t},gj P .leq ty cV c3 (.int k a) (.int k b) aE t=aE (.bool (decide (a≤b)))) ∧
((∀{P:Program} {aE:Value→Prop}  {ty cV c3} (k:IntKind) (a b:Int) {t},gj P .gtr ty cV c3 (.int k a) (.int k b) aE t=aE (.bool (decide (b<a)))) ∧
(∀{P:Program} {aE:Value→Prop}  {ty cV c3} (k:IntKind) (a b:Int) {t},gj P .geq ty cV c3 (.int k a) (.int k b) aE t=aE (.bool (decide (b≤a)))))))) ∧
((((∀{P:Program} {aE:Value→Prop}  {ty cV c3} (k:IntKind) (a b:Int) {t},gj P .eql ty cV c3 (.int k a) (.int k b) aE t=aE (.bool (decide (a=b)))) ∧
(∀{P:Program} {aE:Value→Prop}  {ty cV c3} (k:IntKind) (a b:Int) {t},gj P .neq ty cV c3 (.int k a) (.int k b) aE t=aE (.bool (!decide (a=b))))) ∧
((∀{P:Program} {aE:Value→Prop}  {ty cV c3} (k:IntKind) (a b:Int) {t},gj P .add ty cV c3 (.int k a) (.int k b) aE t=nH k (a+b) aE ⟨⟩) ∧
((∀{P:Program} {aE:Value→Prop}  {ty cV c3} (k:IntKind) (a b:Int) {t},gj P .sub ty cV c3 (.int k a) (.int k b) aE t=nH k (a - b) aE ⟨⟩) ∧
(∀{P:Program} {aE:Value→Prop}  {ty cV c3} (k:IntKind) (a b:Int) {t},gj P .mul ty cV c3 (.int k a) (.int k b) aE t=nH k (a*b) aE ⟨⟩)))) ∧
(((∀{P:Program} {aE:Value→Prop}  {ty cV c3} (a b:ByteArray) {t},gj P .eql ty cV c3 (.string a) (.string b) aE t=aE (.bool (decide (a=b)))) ∧
((∀{P:Program} {aE:Value→Prop}  {ty cV c3} (a b:ByteArray) {t},gj P .neq ty cV c3 (.string a) (.string b) aE t=aE (.bool (!decide (a=b)))) ∧
(∀{aE:Value→Prop}  (b:Bool) {t},wO .not (.bool b) aE t=aE (.bool (!b))))) ∧
((∀{aE:Value→Prop}  (k:IntKind) (n:Int) {t},wO .neg (.int k n) aE t=nH k (0 - n) aE ⟨⟩) ∧
((∀{aE:Value→Prop}  (k q:IntKind) (n:Int) {t},Ba k (.int q n) aE t=nH k n aE ⟨⟩) ∧
(∀{aE:Value→Prop}  (n:Nat) (a:Addr) {t},Be n (.pointer (some a)) aE t=aE (.pointer (some (a.add n)))))))))) ∧
((((((∀{aE:Value→Prop}  (v:Value) (vs:List Value) {t},sS (.tuple (v :: vs).toArray) 0 aE t=aE v) ∧
(∀{aE:Value→Prop}  (v u:Value) (vs:List Value) {t},sS (.tuple (v :: u :: vs).toArray) 1 aE t=aE u)) ∧
((∀{aE:Value→Prop}  (v u x:Value) (vs:List Value) {t},sS (.tuple (v :: u :: x :: vs).toArray) 2 aE t=aE x) ∧
((∀{aE:Value→Prop}  (s:ByteArray) {t},Bi (.string s) aE t=aE (.int .i64 s.size)) ∧
(∀{aE:Value→Prop}  (a:Option Addr) (n c:Nat) {t},Bh (.slice a n c) aE t=aE (.int .i64 n))))) ∧
(((∀{aE:Value→Prop}  (a:Option Addr) (n c:Nat) {t},A8 (.slice a n c) aE t=aE (.int .i64 c)) ∧
((∀{aE:Value→Prop}  (k q:IntKind) (a b:Int) {t},Bk (.int k a) (.int q b) aE t=aE (.int k (max a b))) ∧
(∀{aE:Value→Prop}  (k q:IntKind) (a b:Int) {t},Bl (.int k a) (.int q b) aE t=aE (.int k (min a b))))) ∧
((∀{aE:Value→Prop}  (m n:Nat) (cs:Array Value) {t},Bf m n (.agg cs) aE t=aE (.agg (cs.extract m (m+n)))) ∧
((∀{aE:Value→Prop}  (a:Addr) {t},wD (.pointer (some a)) aE t=aE (.pointer (some a))) ∧
(∀{aE:Value→Prop}  (f:FuncId) (a b:Array Value) {t},wD (.func (.func f) a b) aE t=aE (.func (.func f) a b)))))) ∧
((((∀{kS:List Value→Prop} {S:Fr} {w:World}  {t},ik [] S w kS t=kS []) ∧
(∀{kS:List Value→Prop} {S:Fr} {w:World}  {n r} {t},ik (.tmp n :: r) S w kS t=ik r S w (fun vs=>kS (S n :: vs)) ⟨⟩)) ∧
((∀{kS:List Value→Prop} {S:Fr} {w:World}  {n r} {t},ik (.cell n :: r) S w kS t=pM (S n) w (fun v=>ik r S w (fun vs=>kS (v :: vs)) ⟨⟩) ⟨⟩) ∧
((∀{kS:List Value→Prop} {S:Fr} {w:World}  {m n r} {t},ik (.ja m n :: r) S w kS t=sU m (S n) w (fun v=>ik r S w (fun vs=>kS (v :: vs)) ⟨⟩) ⟨⟩) ∧
(∀{S:Fr} {d:Nat} {v:Value},put S (some d) v=cc S d v)))) ∧
(((∀{S:Fr} {v:Value},put S none v=S) ∧
((∀{S:Fr} {d t:Nat} {v:Value},cc S d v t=if t=d then v else S t) ∧
(∀{S:Fr} {t:Nat},bj S (.tmp t)=S t))) ∧
((∀{S:Fr} {v:Value},bj S (.const v)=v) ∧
((∀{S:Fr} {g:Nat},bj S (.global g) = .pointer (some ⟨g,0,none⟩)) ∧
(∀{S:Fr} {f:Nat},bj S (.func f) = .func (.func f) #[] #[])))))) ∧
(((((∀{k:Nat},hL [] k=fun _=>undef) ∧
(∀{v:Value} {vs:List Value} {k:Nat},hL (v :: vs) k=cc (hL vs (k+1)) k v)) ∧
((gn [] = .tuple #[]) ∧
((∀(v:Value),gn [v]=v) ∧
(∀(v u:Value),gn [v,u] = .tuple #[v,u])))) ∧
(((∀(v u x:Value),gn [v,u,x] = .tuple #[v,u,x]) ∧
((∀(a:Option Addr) (n c:Nat),(Value.slice a n c).cells=#[.slice a n c]) ∧
(∀(k:IntKind) (n:Int),(Value.int k n).cells=#[.int k n]))) ∧
((∀(b:Bool),(Value.bool b).cells=#[.bool b]) ∧
((∀(s:ByteArray),(Value.string s).cells=#[.string s]) ∧
(∀(a:Option Addr),(Value.pointer a).cells=#[.pointer a]))))) ∧
((((∀(a:Option Nat),(Value.map a).cells=#[.map a]) ∧
(∀(f:Fn) (a b:Array Value),(Value.func f a b).cells=#[.func f a b])) ∧
((∀(cs:Array Value),(Value.agg cs).cells=cs) ∧
((∀{α β:Type} {f:α→β} {a:α} {l:List α},(a :: l).map f=f a :: l.map f) ∧
(∀{α β:Type} {f:α→β},([]:List α).map f=[])))) ∧
((((!true)=false) ∧
(((!false)=true) ∧
(∀{h:Decidable True},decide True=true))) ∧
((∀{h:Decidable False},decide False=false) ∧
((∀{α:Type} {a b:α} {h:Decidable True},(if True then a else b)=a) ∧
(∀{α:Type} {a b:α} {h:Decidable False},(if False then a else b)=b))))))))) :=
 ⟨⟨⟨⟨⟨⟨⟨(by intros;apply NU),(by intros;apply NV)⟩,⟨(by intros;apply NW),⟨(by intros;apply NX),(by intros;apply NY)⟩⟩⟩,⟨⟨(by intros;apply NZ),(by intros;apply N0)⟩,⟨(by intros;apply N1),⟨(by intros;apply N2),(by intros;apply N3)⟩⟩⟩⟩,⟨⟨⟨(by intros;apply N5),(by intros;apply N6)⟩,⟨(by intros;apply N7),⟨(by intros;apply N8),(by intros;apply N9)⟩⟩⟩,⟨⟨(by intros;apply Oa),⟨(by intros;apply Ob),(by intros;apply Oc)⟩⟩,⟨(by intros;apply Od),⟨(by intros;apply Oe),(by intros;apply Of)⟩⟩⟩⟩⟩,⟨⟨⟨⟨(by intros;apply Og),(by intros;apply Oh)⟩,⟨(by intros;apply Oi),⟨(by intros;apply Oj),(by intros;apply Ol)⟩⟩⟩,⟨⟨(by intros;apply Om),⟨(by intros;apply On),(by intros;apply Oo)⟩⟩,⟨(by intros;apply rI),⟨(by intros;apply Ou),(by intros;apply Ov)⟩⟩⟩⟩,⟨⟨⟨(by intros;apply Ow),(by intros;apply Ox)⟩,⟨(by intros;apply Oy),⟨(by intros;apply Oz),(by intros;apply OA)⟩⟩⟩,⟨⟨(by intros;apply OB),⟨(by intros;apply OC),(by intros;apply wv)⟩⟩,⟨(by intros;apply iF),⟨(by intros;apply c0),(by intros;apply eT)⟩⟩⟩⟩⟩⟩,⟨⟨⟨⟨⟨(by intros;apply eb),(by intros;apply hg)⟩,⟨(by intros;apply kP),⟨(by intros;apply jh),(by intros;apply mX)⟩⟩⟩,⟨⟨(by intros;apply gp),(by intros;apply OH)⟩,⟨(by intros;apply OI),⟨(by intros;apply OJ),(by intros;apply OK)⟩⟩⟩⟩,⟨⟨⟨(by intros;apply OL),(by intros;apply OM)⟩,⟨(by intros;apply ON),⟨(by intros;apply OO),(by intros;apply OP)⟩⟩⟩,⟨⟨(by intros;apply OQ),⟨(by intros;apply OR),(by intros;apply H1)⟩⟩,⟨(by intros;apply OS),⟨(by intros;apply OT),(by intros;apply OU)⟩⟩⟩⟩⟩,⟨⟨⟨⟨(by intros;apply OV),(by intros;apply OW)⟩,⟨(by intros;apply OX),⟨(by intros;apply OY),(by intros;apply OZ)⟩⟩⟩,⟨⟨(by intros;apply O0),⟨(by intros;apply O1),(by intros;apply O2)⟩⟩,⟨(by intros;apply O3),⟨(by intros;apply O4),(by intros;apply O5)⟩⟩⟩⟩,⟨⟨⟨(by intros;apply O6),(by intros;apply O7)⟩,⟨(by intros;apply O8),⟨(by intros;apply O9),(by intros;apply Pa)⟩⟩⟩,⟨⟨(by intros;apply Pb),⟨(by intros;apply Pc),(by intros;apply Pd)⟩⟩,⟨(by intros;apply Pe),⟨(by intros;apply Pf),(by intros;apply Pg)⟩⟩⟩⟩⟩⟩⟩,⟨⟨⟨⟨⟨⟨(by intros;apply Ph),(by intros;apply Pj)⟩,⟨(by intros;apply Pk),⟨(by intros;apply Po),(by intros;apply Pp)⟩⟩⟩,⟨⟨(by intros;apply M2),(by intros;apply Pq)⟩,⟨(by intros;apply Pr),⟨(by intros;apply Ps),(by intros;apply Pt)⟩⟩⟩⟩,⟨⟨⟨(by intros;apply Pu),(by intros;apply Pv)⟩,⟨(by intros;apply Pw),⟨(by intros;apply Px),(by intros;apply Py)⟩⟩⟩,⟨⟨(by intros;apply Pz),⟨(by intros;apply PA),(by intros;apply PB)⟩⟩,⟨(by intros;apply PC),⟨(by intros;apply PD),(by intros;apply PE)⟩⟩⟩⟩⟩,⟨⟨⟨⟨(by intros;apply PF),(by intros;apply PG)⟩,⟨(by intros;apply PK),⟨(by intros;apply PL),(by intros;apply PM)⟩⟩⟩,⟨⟨(by intros;apply PN),⟨(by intros;apply PO),(by intros;apply PQ)⟩⟩,⟨(by intros;apply PR),⟨(by intros;apply PS),(by intros;apply PT)⟩⟩⟩⟩,⟨⟨⟨(by intros;apply PU),(by intros;apply PV)⟩,⟨(by intros;apply PW),⟨(by intros;apply PX),(by intros;apply PY)⟩⟩⟩,⟨⟨(by intros;apply PZ),⟨(by intros;apply P0),(by intros;apply P1)⟩⟩,⟨(by intros;apply P2),⟨(by intros;apply P3),(by intros;apply P4)⟩⟩⟩⟩⟩⟩,⟨⟨⟨⟨⟨(by intros;apply P6),(by intros;apply Bs)⟩,⟨(by intros;apply Bt),⟨(by intros;apply P7),(by intros;apply P8)⟩⟩⟩,⟨⟨(by intros;apply P9),⟨(by intros;apply Qa),(by intros;apply Qb)⟩⟩,⟨(by intros;apply Qc),⟨(by intros;apply Qd),(by intros;apply Qk)⟩⟩⟩⟩,⟨⟨⟨(by intros;apply Ql),(by intros;apply Qm)⟩,⟨(by intros;apply Qn),⟨(by intros;apply Qo),(by intros;apply Qp)⟩⟩⟩,⟨⟨(by intros;apply Qq),⟨(by intros;apply Qr),(by intros;apply Qs)⟩⟩,⟨(by intros;apply Qt),⟨(by intros;apply Qv),(by intros;apply Qw)⟩⟩⟩⟩⟩,⟨⟨⟨⟨(by intros;apply Qx),(by intros;apply Qy)⟩,⟨(by intros;apply Qz),⟨(by intros;apply QA),(by intros;apply QB)⟩⟩⟩,⟨⟨(by intros;apply QC),⟨(by intros;apply QD),(by intros;apply QE)⟩⟩,⟨(by intros;apply QF),⟨(by intros;apply QG),(by intros;apply QH)⟩⟩⟩⟩,⟨⟨⟨(by intros;apply QI),(by intros;apply QJ)⟩,⟨(by intros;apply QK),⟨(by intros;apply QL),(by intros;apply QM)⟩⟩⟩,⟨⟨(by intros;apply QN),⟨(by intros;apply QO),(by intros;apply QP)⟩⟩,⟨(by intros;apply hI),⟨(by intros;apply eE),(by intros;apply mu)⟩⟩⟩⟩⟩⟩⟩⟩
section
variable{P:Program}{Q:dS→Fr→World→Prop}{aE:Value→Prop}{K:Value→World→Prop}{gq:World→Prop}{S:Fr}{w:World}{A B:Prop}
theorem K.cond{p:Prop}[Decidable p]{t}(h1:p→A)(U:¬p→B):jV (.bool (decide p)) A B t:=Zq h1 U
theorem K.dO{u:Bool}{t}(h1:u=true→A)(U:u=false→B):jV (.bool u) A B t:=Zp h1 U
theorem K.wrap{n:Int}{t}(h : -9223372036854775808≤n∧n≤9223372036854775807)(hk:aE (.int .i64 n)):nH .i64 n aE t:=wrap_i64 h hk
theorem K.aj3{k:IntKind}{n:Int}{t}(h:aE (.int k (k.wrap n))):nH k n aE t:=XJ h
theorem K.aj2{k:IntKind}{n:Int}{t}(h:k.wrap n=n)(hk:aE (.int k n)):nH k n aE t:=XJ (by rw[h];exact hk)
theorem K.quo{ty:TypeId}{cV c3:Operand}{k:IntKind}{a b:Int}{t}(aB:b≠0)(h:nH k (a.tdiv b) aE ⟨⟩):gj P .quo ty cV c3 (.int k a) (.int k b) aE t:=Y4 aB h
theorem K.rem{ty:TypeId}{cV c3:Operand}{k:IntKind}{a b:Int}{t}(aB:b≠0)(h:aE (.int k (a.tmod b))):gj P .rem ty cV c3 (.int k a) (.int k b) aE t:=Y5 aB h
theorem K.bin{op:BinOp}{ty:TypeId}{cV c3:Operand}{x y v:Value}{t}(h:∀w,(do eqGuard op ty cV c3 x y;binOp op ty x y:Sem Value).run P w = .ok v w)(hk:aE v):gj P op ty cV c3 x y aE t:=⟨v,h,hk⟩
theorem K.ib{sz:Nat}{a:Addr}{len cap:Nat}{k:IntKind}{n:Int}{t}(h:0≤n∧n<len)(hk:aE (.pointer (some (a.add (n.toNat*sz))))):yG sz (.slice (some a) len cap) (.int k n) aE t:=aeX h hk
theorem K.dx{sz:Nat}{a:Addr}{len cap:Nat}{k:IntKind}{n:Int}{t}(i:Nat)(af:n=i)(h:i<len)(hk:aE (.pointer (some (a.add (i*sz))))):yG sz (.slice (some a) len cap) (.int k n) aE t:=Uz i af h hk
theorem K.Ad{sz:Nat}{a:Addr}{len:Nat}{k:IntKind}{n:Int}{t}(h:0≤n∧n<len)(hk:aE (.pointer (some (a.add (n.toNat*sz))))):Fl len sz (.pointer (some a)) (.int k n) aE t:=aeW h hk
theorem K.k9{s:ByteArray}{k:IntKind}{n:Int}{t}(c:UInt8)(ao:0≤n)(h:s[n.toNat]? = some c)(hk:aE (.int .u8 c.toNat)):Fp (.string s) (.int k n) aE t:=ae8 c ao h hk
theorem K.vK{len:Nat}{cs:Array Value}{k:IntKind}{n:Int}{t}(v:Value)(ao:0≤n∧n<len)(h:cs[n.toNat]? = some v)(hk:aE v):Fo len (.agg cs) (.int k n) aE t:=ae7 v ao h hk
theorem K.jd{off:Nat}{cs:Array Value}{v:Value}{t}(h:cs[off]? = some v)(hk:aE v):Fj off (.agg cs) aE t:=abo h hk
theorem K.cP{z cs:List Value}{pl:List (Nat×Nat)}{dr:List (Nat×Operand)}{t}(h:e4 S pl dr z=some cs)(hk:aE (.agg cs.toArray)):Fa S z pl dr aE t:=Zb h hk
theorem K.lj{sz:Nat}{a:Option Addr}{len cap:Nat}{bA af mx:Option Operand}{t}(l h m:Nat)(h1:fZ S bA 0=some l)(U:fZ S af len=some h)(ah:fZ S mx cap=some m)
  (aJ:l≤h∧h≤m∧m≤cap)(bk:mx.isSome=true→af.isSome=true)(hk:aE (.slice (if m=l then a else a.map (·.add (l*sz))) (h - l) (m - l))):yQ S sz (.slice a len cap) bA af mx aE t:=aiM l h m h1 U ah aJ bk hk
theorem K.wa{s:ByteArray}{bA af:Option Operand}{t}(l h:Nat)(h1:fZ S bA 0=some l)(U:fZ S af s.size=some h)(aJ:l≤h∧h≤s.size)(hk:aE (.string (s.extract l h))):FF S (.string s) bA af aE t:=aiL l h h1 U aJ hk
theorem K.ld{a:Addr}{c:Value}{t}(h:w.cell? a=some c)(hk:aE c):pM (.pointer (some a)) w aE t:=afA h hk
theorem K.j8{n:Nat}{a:Addr}{cs:List Value}{t}(h:eB w a cs)(aH:cs.length=n)(hk:aE (.agg cs.toArray)):sU n (.pointer (some a)) w aE t:=afz h aH hk
theorem K.l6{d:TypeDesc}{z:Value}{ok:Bool}{m k:Value}{es:Array MapEntry}{r:Option (Nat×Value)}{t}(h1:pN w m es)(U:Instr.findNow d k es.toList 0=some r)(hk:aE (lG z ok r)):yH d z ok m k w aE t:=afN h1 U hk
theorem K.x0{m:Value}{es:Array MapEntry}{t}(h:pN w m es)(hk:aE (.int .i64 es.size)):Fu m w aE t:=afF h hk
theorem K.st{a:Addr}{v kr:Value}{t}(h:w.cell? a=some kr)(aT:w.frozen? a=false)(aO:v.oneCell'=true)(hk:gq (w.setCell a v)):qF (.pointer (some a)) v w gq t:=Xb h aT aO hk
theorem K.qs{n:Nat}{a:Addr}{cs:Array Value}{t}(aH:cs.size=n)(h:∀j,j<n→(∃kr,w.cell? (a.add j)=some kr)∧w.frozen? (a.add j)=false)(h1:∀c∈cs.toList,c.oneCell'=true)(hk:gq (kv w a cs.toList 0)):yS n (.pointer (some a)) (.agg cs) w gq t:=Nl aH h h1 hk
theorem K.pA{e:TypeId}{sz bytes:Nat}{z:Value}{k q:IntKind}{n m:Int}{t}(h:0≤n∧n≤m∧m≤9223372036854775807∧bytes*m≤281474976710656)(hk:K (.slice (some ⟨w.heap.size,0,none⟩) n.toNat m.toNat) (w.alloc (.cells (pL z.cells (m.toNat*sz)) e))) :
  yJ e sz bytes z (.int k n) (.int q m) w K t:=af3 h hk
theorem K.cQ{e:TypeId}{len sz:Nat}{z cs:List Value}{dr:List (Nat×Operand)}{t}(h:e4 S ((List.range len).map fun i=>(i*sz,sz)) dr z=some cs)(hk:K (.slice (some ⟨w.heap.size,0,none⟩) len len) (w.alloc (.cells cs.toArray e))):A7 S e len sz z dr w K t:=wU h hk
theorem K.app{ty e:TypeId}{sz b:Nat}{s x:Value}{t}(h:Qj P ty e sz b→∃u ck w',(Builtin.append_ #[ty,ty] u #[s,x]).run P w = .ok ck w'∧K ck w'):mg P ty e sz b s x w K t:=h
theorem K.iQ{d:TypeDesc}{r:Nat}{k v:Value}{es:Array MapEntry}{c:Nat}{q:Option (Nat×Value)}{t}(h1:w.heap[r]? = some (.map es c))(U:Instr.findNow d k es.toList 0=some q)(hk:gq (e2 w r (qf es c k v q))):wA d (.map (some r)) k v w gq t:=aga h1 U hk
theorem K.vS{r pos:Nat}{s:ByteArray}{t}(h:w.heap[r]? = some (.stringIter s pos))(h1:pos<s.size→K (.tuple #[.bool true,.int .i64 pos,.int .i32 (Utf8.decode s pos).1]) (e2 w r (.stringIter s (pos+(Utf8.decode s pos).2))))
  (U:¬pos<s.size→K (.tuple #[.bool false]) w):FA (.pointer (some ⟨r,0,none⟩)) w K t:=agr h h1 U
theorem K.raw{op:Op}{ty:TypeId}{v:Value}{w':World}{t}(h:(execOp (bj S) ⟨none,op,ty, "",#[],none⟩).run P w = .ok (.value v) w')(hk:K v w'):sZ P op ty S w K t:=⟨v,w',.inl h,hk⟩
theorem K.call{f:FuncId}{args:List Value}{R:Value→World→Prop}{t}(h:bw P f args.toArray w R)(hk:∀v w',R v w'→K v w'):yA P f args w K t:=Zl h hk
theorem K.e3{f:FuncId}{args:List Value}{R:Value→World→Prop}{Z qI:List PanicEntry→World→Prop}{t}(h:pQ P f args.toArray w R Z)(hk:∀v w',R v w'→K v w')(bL:∀c w',Z c w'→qI c w'):FG P f args w K qI t:=pQ.mono h hk bL
theorem K.EO{f:FuncId}{L:mZ}(hm:P.follows .mixedOrders=true)(aw:lA P f=some L){args:List Value}{R:Value→World→Prop}{Z:List PanicEntry→World→Prop}(bu:args.length≤L.n)(h:dR P L.code (vf L.res R Z ⟨⟩) (hL args 0) w ⟨⟩):pQ P f args.toArray w R Z:=aaH hm aw bu h
theorem K.mv{f:FuncId}{first cap:List Value}{args:List Value}{R:Value→World→Prop}{t}(aT:okF P f=true)(h:bw P f (first++args++cap).toArray w R)(hk:∀v w',R v w'→K v w'):wo P (.func (.func f) first.toArray cap.toArray) args w K t:=Or.inl (Je aT h hk)
theorem K.Jd{f:FuncId}{first cap:List Value}{args:List Value}{R:Value→World→Prop}{t}(aT:okF P f=true)(h:bw P f (first++args++cap).toArray w R)(hk:∀v w',R v w'→K v w'):uQ P (.func (.func f) first.toArray cap.toArray) args w K t:=Je aT h hk
theorem K.yield{l:Nat}{args:List Value}{R:Ending→World→Prop}{t}(h:YieldAt Fence.wide 0 P l args.toArray w R)(hk:∀e w',R e w'→∃v,e = .returned v∧K v w'):wo P (.func (.yield l) #[] #[]) args w K t :=
 Or.inr ⟨l,rfl,let ⟨fn,tmps,assign,body,h1,U⟩:=h; ⟨fn,tmps,assign,body,h1,U.mono hk⟩⟩
theorem K.gm{f:FuncId}{args:List Value}{t}(v:Value)(h:∀w',Ext w w'→bw P f args.toArray w' fun u b1=>u=v∧Ext w' b1)(hk:aE v):FC P f args w aE t:=ahs v h hk
theorem K.new{n:TypeId}{cs:Array Value}{t}(hk:∀aq b,w.heap.size≤b→Ext w aq→aq.heap[b]? = some (.cells cs n)→K (.pointer (some ⟨b,0,none⟩)) aq):wB n cs w K t :=
 hk _ _ (Nat.le_refl _) ((Ext.refl w).alloc _) (heap_alloc_new w _)
theorem K.AF{t}(hk:∀aq b,w.heap.size≤b→Ext w aq→aq.heap[b]? = some (.map #[] 0)→K (.map (some b)) aq):Fz w K t:=hk _ _ (Nat.le_refl _) ((Ext.refl w).alloc _) (heap_alloc_new w _)
theorem K.vY{s:ByteArray}{t}(hk:∀aq b,w.heap.size≤b→Ext w aq→aq.heap[b]? = some (.stringIter s 0)→K (.pointer (some ⟨b,0,none⟩)) aq):FE (.string s) w K t :=
 ⟨s,rfl,hk _ _ (Nat.le_refl _) ((Ext.refl w).alloc _) (heap_alloc_new w _)⟩
theorem K.oy{e:TypeId}{len sz:Nat}{z cs:List Value}{dr:List (Nat×Operand)}{t}(h:e4 S ((List.range len).map fun i=>(i*sz,sz)) dr z=some cs)
  (hk:∀aq b,w.heap.size≤b→Ext w aq→aq.heap[b]? = some (.cells cs.toArray e)→K (.slice (some ⟨b,0,none⟩) len len) aq):A7 S e len sz z dr w K t :=
 wU h (hk _ _ (Nat.le_refl _) ((Ext.refl w).alloc _) (heap_alloc_new w _))
theorem K.st1{b j:Nat}{c:Array Value}{e:TypeId}{v:Value}{t}(aB:w.heap[b]? = some (.cells c e))(aI:j<c.size)(aO:v.oneCell'=true)
  (hk:∀aq,dz b w aq→aq.heap[b]? = some (.cells (c.set j v aI) e)→gq aq):qF (.pointer (some (Addr.add ⟨b,0,none⟩ j))) v w gq t :=
 Xb (eN aB (Array.getElem?_eq_getElem aI)) (by rw[add_eq];simp[World.frozen?,aB]) aO (hk _ (by have h:=dz.setCell w (Addr.add ⟨b,0,none⟩ j) v;rwa[uZ] at h) (EH aB aI v))
theorem K.sO{b:Nat}{c:Array Value}{e:TypeId}{v:Value}{t}(aB:w.heap[b]? = some (.cells c e))(aI:0<c.size)(aO:v.oneCell'=true)
  (hk:∀aq,dz b w aq→aq.heap[b]? = some (.cells (c.set 0 v aI) e)→gq aq):qF (.pointer (some ⟨b,0,none⟩)) v w gq t :=
 K.st1 (j:=0) (t:=⟨⟩) aB aI aO hk
theorem K.hT{b n:Nat}{c cs:Array Value}{e:TypeId}{t}(aB:w.heap[b]? = some (.cells c e))(aw:c.size=n)(aH:cs.size=n)(h1:∀x∈cs.toList,x.oneCell'=true)
  (hk:∀aq,dz b w aq→aq.heap[b]? = some (.cells cs e)→gq aq):yS n (.pointer (some ⟨b,0,none⟩)) (.agg cs) w gq t :=
 Nl aH (fun j aI=>⟨⟨_,eN aB (Array.getElem?_eq_getElem (by omega))⟩,by rw[add_eq];simp[World.frozen?,aB]⟩) h1 (hk _ (dz.kv cs.toList w ⟨b,0,none⟩ 0) (WW aB (by omega)))
theorem K.loop{b:e1}{t}(ep:Fr→World→Prop)(jD:Fr→World→Nat)(ao:ep S w)
  (bd:∀a8 w',(∀t,b.fi.contains t=false→a8 t=S t)→ep a8 w'→dR P b (hb (fun fh b1=>ep fh b1∧jD fh b1<jD a8 w') Q ⟨⟩) a8 w' ⟨⟩):wz P b Q S w t:=afS ep jD ao bd
theorem K.start{f:FuncId}{L:mZ}(hm:P.follows .mixedOrders=true)(aw:lA P f=some L){args:List Value}{R:Value→World→Prop}(bu:args.length≤L.n)(h:dR P L.code (qW L.res R ⟨⟩) (hL args 0) w ⟨⟩):bw P f args.toArray w R:=enter hm aw bu h
end
attribute [irreducible] dR
attribute [irreducible] jy
attribute [irreducible] lI
attribute [irreducible] ft
attribute [irreducible] yn
attribute [irreducible] qX
attribute [irreducible] qM
attribute [irreducible] o1
attribute [irreducible] mj
attribute [irreducible] wm
attribute [irreducible] wo
attribute [irreducible] nE
attribute [irreducible] wF
attribute [irreducible] FC
attribute [irreducible] Bq
attribute [irreducible] eC
attribute [irreducible] nF
attribute [irreducible] hY
attribute [irreducible] wk
attribute [irreducible] gj
attribute [irreducible] wO
attribute [irreducible] Ba
attribute [irreducible] nH
attribute [irreducible] jV
attribute [irreducible] ji
attribute [irreducible] Be
attribute [irreducible] yG
attribute [irreducible] Fl
attribute [irreducible] Fp
attribute [irreducible] Fo
attribute [irreducible] Fj
attribute [irreducible] Bf
attribute [irreducible] Fa
attribute [irreducible] yQ
attribute [irreducible] FF
attribute [irreducible] sS
attribute [irreducible] Bi
attribute [irreducible] Bh
attribute [irreducible] A8
attribute [irreducible] Bk
attribute [irreducible] Bl
attribute [irreducible] wD
attribute [irreducible] pM
attribute [irreducible] sU
attribute [irreducible] yH
attribute [irreducible] Fu
attribute [irreducible] qF
attribute [irreducible] yS
attribute [irreducible] yJ
attribute [irreducible] A7
attribute [irreducible] mg
attribute [irreducible] wA
attribute [irreducible] FA
attribute [irreducible] FE
attribute [irreducible] sZ
attribute [irreducible] yA
attribute [irreducible] FG
attribute [irreducible] Bp
attribute [irreducible] uQ
attribute [irreducible] wB
attribute [irreducible] Fz
attribute [irreducible] wz
attribute [irreducible] ik
attribute [irreducible] hb pc qW vf
end bt
end
section
namespace bt
open Go Go.RowKit
structure bG{α:Type}(sz:Nat)(R:World→Addr→α→Prop)(w:World)(v:Value)(xs:List α):Prop where
 ex:∃bm cap,v = .slice bm xs.length cap∧xs.length≤cap∧cap≤maxLen∧(xs≠[]→bm.isSome=true)∧∀a,bm=some a→∀i (h:i<xs.length),R w (a.add (i*sz)) xs[i]
theorem bG.form{α:Type}{sz:Nat}{R:World→Addr→α→Prop}{w:World}{v:Value}{xs:List α}(h:bG sz R w v xs):∃bm cap,v = .slice bm xs.length cap∧xs.length≤9223372036854775807:=by
 obtain⟨bm,cap,h1,U,ah,_⟩:=h.ex;exact⟨bm,cap,h1,by unfold maxLen at ah;omega⟩
theorem bG.addr{α:Type}{sz:Nat}{R:World→Addr→α→Prop}{w:World}{bm:Option Addr}{n c:Nat}{xs:List α}(h:bG sz R w (.slice bm n c) xs)(aH:0<xs.length):∃a,bm=some a:=by
 obtain⟨iR,cap,h1,U,ah,aJ,_⟩:=h.ex;injection h1 with h1 _ _
 subst h1;exact Option.isSome_iff_exists.1 (aJ (by intro e;subst e;simp at aH))
theorem bG.at{α:Type}{sz:Nat}{R:World→Addr→α→Prop}{w:World}{a:Addr}{n c:Nat}{xs:List α}(h:bG sz R w (.slice (some a) n c) xs)(i:Nat)(af:i<xs.length):R w (a.add (i*sz)) xs[i]:=by
 obtain⟨iR,cap,h1,U,ah,aJ,bk⟩:=h.ex;injection h1 with h1 _ _
 subst h1;exact bk a rfl i af
theorem bG.ext{α:Type}{sz:Nat}{R:World→Addr→α→Prop}(er:∀w w' a x,Ext w w'→R w a x→R w' a x){w w':World}{v:Value}{xs:List α}(he:Ext w w')(h:bG sz R w v xs):bG sz R w' v xs:=by
 obtain⟨bm,cap,h1,U,ah,aJ,bk⟩:=h.ex;exact⟨bm,cap,h1,U,ah,aJ,fun a bu i af=>er _ _ _ _ he (bk a bu i af)⟩
def Flat{α:Type}(enc:α→List Value)(w:World)(a:Addr)(x:α):Prop:=eB w a (enc x)
theorem Flat.ext{α:Type}{enc:α→List Value}(w w':World)(a:Addr)(x:α)(he:Ext w w')(h:Flat enc w a x):Flat enc w' a x:=eB.ext he h
def hF{mW:Type}(enc:mW→Value)(es:List MapEntry)(m:List (mW×Value)):Prop:=es.map (fun e=>(e.key,e.val))=m.map (fun p=>(enc p.1,p.2))
theorem xb{mW:Type}[DecidableEq mW]{enc:mW→Value}{d:TypeDesc}(aG:∀x y,Instr.sameNow d (enc x) (enc y)=some (decide (x=y)))(x:mW):∀(es:List MapEntry) (m:List (mW×Value)) (i:Nat),hF enc es m →
  ∃r,Instr.findNow d (enc x) es i=some r∧r.map (·.2)=(m.find? (fun p=>decide (x=p.1))).map (·.2)
 | [],m,i,h=>by
  have:m=[]:=by cases m with | nil=>rfl | cons _ _=>simp[hF] at h
  subst this;exact⟨none,rfl,rfl⟩
 | e :: es,m,i,h=>by
  cases m with
  | nil=>simp[hF] at h
  | cons p m =>
   simp only[hF,List.map_cons,List.cons.injEq,Prod.mk.injEq] at h;obtain⟨⟨h1,U⟩,ah⟩:=h;unfold Instr.findNow;rw[h1,aG];by_cases av:x=p.1
   ·simp only[av,decide_true];exact⟨_,rfl,by simp[U]⟩
   ·simp only[av,decide_false];obtain⟨r,aJ,bk⟩:=xb aG x es m (i+1) ah;exact⟨r,aJ,by rw[bk];simp[av]⟩
theorem HW(x y:ByteArray):Instr.sameNow .string (.string x) (.string y)=some (decide (x=y)):=by simp[Instr.sameNow,BG]
theorem HV(k q:IntKind)(x y:Int):Instr.sameNow (.int q) (.int k x) (.int k y)=some (decide (x=y)):=by simp[Instr.sameNow];rfl
theorem hF.push{mW:Type}{enc:mW→Value}{es:Array MapEntry}{m:List (mW×Value)}(h:hF enc es.toList m)(x:mW)(v:Value)(c:Nat):hF enc (es.push { key:=enc x,val:=v,born:=c }).toList (m++[(x,v)]):=by
 simp only[hF] at *;simp[h]
theorem JT{α:Type}{enc:α→List Value}{sz:Nat}(dn:∀x,(enc x).length=sz):∀(xs:List α) (i j:Nat) (h:i<xs.length),j<sz→(xs.flatMap enc)[i*sz+j]? = (enc xs[i])[j]?
 | [],i,j,h,_=>by simp at h
 | x :: xs,0,j,h,aI=>by
  simp only[List.flatMap_cons,Nat.zero_mul,Nat.zero_add,List.getElem_cons_zero];rw[List.getElem?_append_left (by rw[dn];exact aI)]
 | x :: xs,i+1,j,h,aI=>by
  simp only[List.flatMap_cons,List.getElem_cons_succ];rw[List.getElem?_append_right (by rw[dn,Nat.add_mul];omega),dn,show(i+1)*sz+j - sz=i*sz+j from by rw[Nat.add_mul];omega];exact JT dn xs i j (by simpa using h) aI
theorem Zy{α:Type}{enc:α→List Value}{sz:Nat}(dn:∀x,(enc x).length=sz){w:World}{b:Nat}{e:TypeId}{f:Nat×Nat}{xs:List α}(aB:w.heap[b]? = some (.cells (xs.flatMap enc).toArray e f))(i:Nat)(h:i<xs.length) :
  eB w (Addr.add ⟨b,0,none⟩ (i*sz)) (enc xs[i]):=fun j v aI=>by
 have K2:j<sz:=by rw[←dn xs[i]];exact(List.getElem?_eq_some_iff.1 aI).1
 rw[add_add];exact eN aB (by rw[List.getElem?_toArray,JT dn xs i j h K2];exact aI)
theorem bG.aQ{α:Type}{enc:α→List Value}{sz:Nat}(dn:∀x,(enc x).length=sz){R:World→Addr→α→Prop}{w:World}{b n:Nat}{e:TypeId}{f:Nat×Nat}{xs:List α}(aB:w.heap[b]? = some (.cells (xs.flatMap enc).toArray e f))
  (aH:n=xs.length)(hm:xs.length≤maxLen)(er:∀a x,x∈xs→eB w a (enc x)→R w a x):bG sz R w (.slice (some ⟨b,0,none⟩) n n) xs:=by
 subst aH;refine⟨_,_,rfl,Nat.le_refl _,hm,fun _=>rfl,fun a bu i af=>?_⟩;injection bu with bu;subst bu
 exact er _ _ (List.getElem_mem _) (Zy dn aB i af)
theorem bG.nil{α:Type}{sz:Nat}{R:World→Addr→α→Prop}{w:World}:bG sz R w (.slice none 0 0) ([]:List α):=⟨none,0,rfl,Nat.le_refl _,Nat.zero_le _,fun h=>absurd rfl h,fun a h=>by cases h⟩
end bt
end
section
namespace bt
open Go Go.RowKit Go.ChangeShapes Go.WideShapes Go.Deep
section
variable{H:Type}{enc:TypeId×Value→H}{P:Program}
theorem Xq{w:World}:∀{cD:List TypeId} {vs:List Value} {ds:List (DataW H)} {dr:List MemPlace},DataW.TrodAll enc P w 0 (fun _=>true) true cD vs ds dr→∀x∈dr,x.block<w.heap.size
 | [],_,_,_,h=>by
  obtain⟨rfl,rfl,rfl⟩:=trodAll_nil h;intro x av;cases av
 | _ :: _,_,_,_,h=>by
  obtain⟨v,Xz,d,RJ,a,b,rfl,rfl,rfl,⟨m,h1⟩,U⟩:=trodAll_cons h;intro x av;rcases List.mem_append.1 av with av | av
  ·exact DataW.trod_lt m _ _ _ h1 x av
  ·exact Xq U x av
theorem Xp{w:World}{sp:Nat→Bool}{bx:Bool}:∀{cD:List TypeId} {vs:List Value} {ds:List (DataW H)} {dr:List MemPlace},DataW.TrodAll enc P w 0 sp bx cD vs ds dr→ds.length=cD.length
 | [],_,_,_,h=>by
  obtain⟨rfl,rfl,rfl⟩:=trodAll_nil h;rfl
 | _ :: _,_,_,_,h=>by
  obtain⟨v,Xz,d,RJ,a,b,rfl,rfl,rfl,h1,U⟩:=trodAll_cons h;simp[Xp U]
theorem Xo(a1:laidOutB P=true){W b8:World}(aB:Below W.heap.size W b8):∀{cD:List TypeId} {vs:List Value} {ds:List (DataW H)} {dr:List MemPlace},(cD.all fun t=>P.readableRec t&&decide (t<P.types.size))=true →
  DataW.TrodAll enc P W 0 (fun _=>true) true cD vs ds dr→(∀x∈dr,x.block<W.heap.size)→DataW.TrodAll enc P b8 0 (fun b=>decide (b<W.heap.size)) true cD vs ds dr
 | [],_,_,_,_,h,_=>by
  obtain⟨rfl,rfl,rfl⟩:=trodAll_nil h;exact trodAll_mk0
 | _ :: _,_,_,_,bd,h,cB=>by
  obtain⟨v,Xz,d,RJ,a,b,rfl,rfl,rfl,h1,U⟩:=trodAll_cons h;simp only[List.all_cons,Bool.and_eq_true,decide_eq_true_eq] at bd;exact trodAll_cons_mk (Below.trod a1 bd.1.1 bd.1.2 h1 aB fun x av=>cB x (List.mem_append_left _ av)) (Xo a1 aB bd.2 U fun x av=>cB x (List.mem_append_right _ av))
theorem amB{s:ChangeSpec}{f:Func}{tb:TypeId}(a1:laidOutB P=true)(bd:(f.params.toList.all fun t=>P.readableRec t&&decide (t<P.types.size))=true)(aO:s.vars=[])
  (aes:f.resultTypes=#[tb])(aL:P.underlying tb=some .bool)(aG:∀ds:List (DataW H),ds.length=f.params.toList.length→s.fn H ds = { results:=[.lit (.bool true)],args:=ds })
  {W b8:World}{args:Array Value}{ds gs:List (DataW H)}{before:List MemPlace}(SY:DataW.Whole enc P f.params.toList s.vars false W args.toList ds gs before)(Q5:Ext W b8) :
  s.post enc P f false true false false W args (.bool true) b8:=by
 have acq:=SY;obtain⟨p,q,ed,oD,rfl,alA,jQ⟩:=SY;rw[aO] at oD;obtain⟨rfl,rfl⟩:=trodVars_none oD;have cB:=Xq ed;have e:=aG ds (Xp ed);refine⟨ds,[],_,[],p,[],acq,?_,?_,?_,Q5.frame _,fun h=>by cases h⟩
 ·rw[List.append_nil,e,aes];exact trodAll_mk1 (shut_bool aL _)
 ·rw[List.append_nil,e];exact Xo a1 Q5 bd ed cB
 ·rw[List.append_nil,e,aO];rfl
variable{w:World}{base:Nat}{spare:Nat→Bool}{held:Bool}
theorem Vp{α:Type}(n:Nat)(R:Nat→α→Prop)(h:∀i,i<n→∃x,R i x):∃xs:List α,xs.length=n∧∀i (af:i<xs.length),R i xs[i]:=by
 induction n with
 | zero=>exact⟨[],rfl,fun i af=>absurd af (Nat.not_lt_zero _)⟩
 | succ n e6 =>
  obtain⟨xs,a1,av⟩:=e6 fun i af=>h i (by omega);obtain⟨x,xP⟩:=h n (by omega);refine⟨xs++[x],by simp[a1],fun i af=>?_⟩;by_cases aH:i<xs.length
  ·rw[List.getElem_append_left aH];exact av i aH
  ·have:i=n:=by simp at af;omega
   subst this;rw[List.getElem_append_right (by omega)];simpa[a1] using xP
end
theorem ZC{H:Type}{enc:TypeId×Value→H}{P:Program}{w:World}{base:Nat}{sp:Nat→Bool}{held:Bool}{fuel:Nat}{t e:TypeId}{n:Nat}{cs:List Value}{zs:List ByteArray}{p:List MemPlace}
  (aL:P.underlying t=some (.array n e))(he:P.underlying e=some .string)(e9:P.cellsOf e=1)(vu:P.cellsOf t=n)
  (h:DataW.trod enc P w base sp held fuel t cs=some (.agg (zs.map fun z=>.lit (.string z.data.toList)),p)):cs=zs.map Value.string:=by
 cases fuel with
 | zero=>simp[DataW.trod] at h
 | succ fuel =>
  simp only[DataW.trod,aL,e9,vu,Nat.mul_one] at h;split at h
  ·rename_i a1;obtain⟨xs,hm,av⟩:=Option.map_eq_some_iff.1 h;have xS:xs.map (·.1)=zs.map fun z=>(DataW.lit (.string z.data.toList):DataW H):=by
    have:=congrArg Prod.fst av
    simpa using this
   have Aa:xs.length=n:=by simpa using Lib.mapM_length hm
   have al9:zs.length=n:=by
    have:=congrArg List.length xS
    simp at this;omega
   apply List.ext_getElem?;intro i;by_cases af:i<n
   ·obtain⟨b,aB,aT⟩:=Lib.mapM_at hm i i (by simp[af]);obtain⟨z,aw,rfl,_⟩:=DataW.trod_string he aT;have h1:cs[i]? = some (.string z):=by
     have:=congrArg (·[0]?) aw
     simpa[List.getElem?_take,List.getElem?_drop] using this
    have U:(xs.map (·.1))[i]? = some (DataW.lit (.string z.data.toList):DataW H):=by simp[aB]
    rw[xS] at U;simp only[List.getElem?_map,Option.map_eq_some_iff,DataW.lit.injEq,Lit.string.injEq] at U;obtain⟨XP,Dz,e⟩:=U;have ba:XP=z:=by
     cases XP;cases z;simp at e;simp[e]
    simp[h1,Dz,ba]
   ·rw[List.getElem?_eq_none (by omega),List.getElem?_eq_none (by simp;omega)]
  ·cases h
theorem amS{P:Program}{W:World}{name:String}{zs:List ByteArray}{rest:List (String×DataW Unit)}{g:Nat}{t e:TypeId}{n:Nat}
  (aV:P.globalNamed name=some g)(aeE:(P.globals[g]?).map (·.type)=some t)(aL:P.underlying t=some (.array n e))(he:P.underlying e=some .string)(e9:P.cellsOf e=1)(vu:P.cellsOf t=n)
  (h:laidMet P ((name,.agg (zs.map fun z=>.lit (.string z.data.toList))) :: rest) W):eB W ⟨g,0,none⟩ (zs.map Value.string):=by
 obtain⟨dr,⟨akS,fJ,cs,fuel,p,q,adA,z8,aeI,bx,_,_⟩,_⟩:=h;obtain rfl:=Option.some.inj (aV.symm.trans adA);obtain rfl:=Option.some.inj (aeE.symm.trans z8);have e:=ZC aL he e9 vu bx;intro j v aI
 have:=World.var?_cell aV aeI j
 rw[show Addr.add ⟨g,0,none⟩ j=⟨g,j,none⟩ from by cases j<;>simp[Addr.add],this,Array.getElem?_toList.symm,e];exact aI
end bt
end
section
namespace bt
open Go Go.RowKit
theorem Ext.grown{w0 w w':World}{r:Option Nat}(he:Ext w0 w)(aV:w.grownBy w' r)(bd:∀k,r=some k→w0.heap.size≤k):Ext w0 w':=Below.grown he aV he.size bd
theorem agV{w w':World}{base:Nat}{e:TypeId}{sz:Nat}{v:Value}{n:Nat}{xs:List Value}(he:Ext w w')(h:w.ownsRow base e sz v n xs):w'.ownsRow base e sz v n xs:=by
 refine⟨h.1,?_⟩;rcases h.2 with aH | ⟨g,cap,cur,rfl,aB,G0,rest⟩
 ·exact .inl aH
 ·exact .inr ⟨g,cap,cur,rfl,aB,he.obj G0,rest⟩
theorem agW{w:World}{base y1:Nat}{e:TypeId}{sz:Nat}{v:Value}{n:Nat}{xs:List Value}(aB:y1≤base)(h:w.ownsRow base e sz v n xs):w.ownsRow y1 e sz v n xs:=by
 refine⟨h.1,?_⟩;rcases h.2 with aH | ⟨g,cap,cur,rfl,CF,rest⟩
 ·exact .inl aH
 ·exact .inr ⟨g,cap,cur,rfl,Nat.le_trans aB CF,rest⟩
theorem VS{w:World}{base:Nat}{e:TypeId}{sz:Nat}{v:Value}{n:Nat}{xs:List Value}(h:w.ownsRow base e sz v n xs):∃bm cap,v = .slice bm n cap∧n≤cap∧cap≤maxLen∧(n≠0→bm.isSome=true)∧∀a,bm=some a→eB w a xs:=by
 rcases h.2 with ⟨rfl,rfl⟩ | ⟨g,cap,cur,rfl,aB,G0,h1,U,ah,aJ⟩
 ·exact⟨none,0,rfl,Nat.le_refl _,Nat.zero_le _,fun h=>absurd rfl h,fun a bu=>by cases bu⟩
 ·exact⟨_,cap,rfl,h1,U,fun _=>rfl,fun a bu=>by injection bu with bu;subst bu;exact fun j u aI=>h.cells (g:=g) rfl j u aI⟩
theorem agX{α:Type}{enc:α→List Value}{w:World}{base:Nat}{e:TypeId}{sz:Nat}{v:Value}{xs:List α}(dn:∀x,(enc x).length=sz)(h:w.ownsRow base e sz v xs.length (xs.flatMap enc)):bG sz (Flat enc) w v xs:=by
 obtain⟨bm,cap,rfl,h1,U,ah,aJ⟩:=VS h;refine⟨bm,cap,rfl,h1,U,fun aH=>ah (by intro e;exact aH (List.eq_nil_of_length_eq_zero e)),fun a bu i af=>?_⟩;intro j u aI;have K2:j<sz:=by rw[←dn xs[i]];exact(List.getElem?_eq_some_iff.1 aI).1
 rw[add_add];exact aJ a bu _ _ (by rw[JT dn xs i j af K2];exact aI)
theorem K.YH{P:Program}{di:Value→World→Prop}{w:World}{ty e:TypeId}{sz b:Nat}{s:Value}{a:Addr}{m c:Nat}{t}{base n:Nat}{xs news:List Value}(aG:w.ownsRow base e sz s n xs)(aw:eB w a news)(a1:news.length=m*sz)
  (h1:∀u∈news,u.oneCell'=true)(mA:n+m≤maxLen)(aB:(n+m)*b≤140737488355328)(lD:base≤w.heap.size)
  (hk:∀ck w',w'.ownsRow base e sz ck (n+m) (xs++news)→w.grownBy w' s.ownBlock→di ck w'):mg P ty e sz b s (.slice (some a) m c) w di t :=
 K.app fun⟨aL,i,z,af,bL,Dn,CK,Ac,dn⟩=>by
  obtain⟨ck,w',bd,U,ah,_⟩:=run_append_own (P:=P) w base ty ty e i z sz b aL af bL Dn CK Ac dn s n xs aG a m c news a1 aw h1 mA aB lD;exact⟨ty,ck,w',bd,hk ck w' U ah⟩
theorem add_zero(a:Addr):a.add 0=a:=by simp[Addr.add]
theorem bG.cap{α:Type}{sz:Nat}{R:World→Addr→α→Prop}{w:World}{bm:Option Addr}{n c:Nat}{xs:List α}(h:bG sz R w (.slice bm n c) xs):xs.length≤c:=by
 obtain⟨iR,cap,e,U,ah,aJ,bk⟩:=h.ex;injection e with b2 ba bz
 subst bz;exact U
theorem bG.take{α:Type}{sz:Nat}{R:World→Addr→α→Prop}{w:World}{bm:Option Addr}{n c:Nat}{xs:List α}(h:bG sz R w (.slice bm n c) xs)(k:Nat)(hk:k≤xs.length) :
  bG sz R w (.slice (if c=0 then bm else bm.map (·.add (0*sz))) (k - 0) (c - 0)) (xs.take k):=by
 obtain⟨iR,cap,e,U,ah,aJ,bk⟩:=h.ex;injection e with b2 ba bz
 subst b2 ba bz;have e:(if c=0 then bm else bm.map (·.add (0*sz)))=bm:=by
  split
  ·rfl
  ·cases bm with
   | none=>rfl
   | some a=>simp[add_zero]
 rw[e];refine⟨bm,c,by simp[List.length_take,Nat.min_eq_left hk],by simp[List.length_take];omega,ah,fun aH=>aJ (by intro e;subst e;simp at aH),fun a bu i af=>?_⟩;have cS:i<xs.length:=by simp[List.length_take] at af;omega
 rw[List.getElem_take];exact bk a bu i cS
theorem St{α:Type}{enc:α→List Value}{sz:Nat}(dn:∀x,(enc x).length=sz):∀(xs:List α) (p:Nat) (v:Value),(xs.flatMap enc)[p]? = some v→∃i j,∃h:i<xs.length,j<sz∧p=i*sz+j∧(enc xs[i])[j]? = some v
 | [],p,v,h=>by simp at h
 | x :: xs,p,v,h=>by
  rw[List.flatMap_cons] at h;by_cases aW:p<sz
  ·rw[List.getElem?_append_left (by rw[dn];exact aW)] at h;exact⟨0,p,by simp,aW,by simp,h⟩
  ·rw[List.getElem?_append_right (by rw[dn];omega),dn] at h;obtain⟨i,j,af,aI,e,U⟩:=St dn xs (p - sz) v h;exact⟨i+1,j,by simpa using af,aI,by rw[Nat.add_mul];omega,by simpa using U⟩
theorem bG.flat{α:Type}{enc:α→List Value}{sz:Nat}{R:World→Addr→α→Prop}{w:World}{a:Addr}{n c:Nat}{xs:List α}(dn:∀x,(enc x).length=sz)(er:∀a x,R w a x→eB w a (enc x))
  (h:bG sz R w (.slice (some a) n c) xs):eB w a (xs.flatMap enc):=by
 intro p v aW;obtain⟨i,j,af,aI,rfl,U⟩:=St dn xs p v aW
 have:=er _ _ (h.at i af) j v U
 rwa[add_add] at this
theorem xd{α:Type}{enc:α→List Value}{sz:Nat}(dn:∀x,(enc x).length=sz):∀(xs:List α),(xs.flatMap enc).length=xs.length*sz
 | []=>by simp
 | x :: xs=>by rw[List.flatMap_cons,List.length_append,xd dn xs,dn,List.length_cons,Nat.add_mul];omega
theorem K.cut{P:Program}{Q:dS→Fr→World→Prop}{S:Fr}{w:World}{a b:e1}{t}(N:Fr→World→Prop)(h1:dR P a (hb N Q ⟨⟩) S w ⟨⟩)
  (U:∀a8 w',(∀t,a.fi.contains t=false→a8 t=S t)→N a8 w'→dR P b Q a8 w' ⟨⟩):dR P (.seq a b) Q S w t:=by
 unfold dR hb at *;exact og a _ _ S w (fun e a8 w' aG h=>match e,h with | .normal,h=>U a8 w' aG h | .exit _,h=>h | .ret,h=>h | .fA _,h=>h) h1
theorem K.Mm{P:Program}{fJ:TypeId}{cV c3:Operand}{aE:Value→Prop}{a b:Bool}{t}(h:P.underlying fJ=some .bool)(hk:aE (.bool (a != b))):gj P .neq fJ cV c3 (.bool a) (.bool b) aE t :=
 K.bin (v:=.bool (a != b)) (fun w=>by cases a<;>cases b<;>simp[eqGuard_at_bool,binOp,run_equal_bool w fJ _ _ h]) hk
theorem K.aaM{P:Program}{fJ:TypeId}{cV c3:Operand}{aE:Value→Prop}{a b:Bool}{t}(h:P.underlying fJ=some .bool)(hk:aE (.bool (a == b))):gj P .eql fJ cV c3 (.bool a) (.bool b) aE t :=
 K.bin (v:=.bool (a == b)) (fun w=>by cases a<;>cases b<;>simp[eqGuard_at_bool,binOp,run_equal_bool w fJ _ _ h]) hk
theorem agU{w:World}{base:Nat}{e:TypeId}{sz b:Nat}(aB:base≤b)(h:w.heap[b]? = some (.cells #[] e)):w.ownsRow base e sz (.slice (some ⟨b,0,none⟩) 0 0) 0 [] :=
 ⟨by simp,.inr ⟨b,0,#[],rfl,aB,h,Nat.le_refl _,Nat.zero_le _,by simp,by simp⟩⟩
end bt
end
section
namespace bt
open Go Go.RowKit
class oZ{α:Type}(R:World→Addr→α→Prop)(enc:outParam (α→List Value)):Prop where
 Jj:∀w a x,R w a x→eB w a (enc x)
instance amb{α:Type}(enc:α→List Value):oZ (Flat enc) enc:=⟨fun _ _ _ h=>h⟩
section
variable{P:Program}{Q:dS→Fr→World→Prop}{aE:Value→Prop}{K:Value→World→Prop}{S:Fr}{w w0:World}
theorem K.sB{b j:Nat}{c:List Value}{ty:TypeId}{f:Nat×Nat}{v:Value}{t}(aB:w0.heap[b]? = some (.cells c.toArray ty f))(he:Ext w0 w)(aI:c[j]? = some v)(hk:aE v):pM (.pointer (some (Addr.add ⟨b,0,none⟩ j))) w aE t :=
 K.ld (eN (he.obj aB) (by simpa using aI)) hk
theorem K.qd{b:Nat}{c:List Value}{ty:TypeId}{f:Nat×Nat}{v:Value}{t}(aB:w0.heap[b]? = some (.cells c.toArray ty f))(he:Ext w0 w)(aI:c[0]? = some v)(hk:aE v):pM (.pointer (some ⟨b,0,none⟩)) w aE t :=
 K.ld (ze (he.obj aB) (by simpa using aI)) hk
theorem K.gX{b n:Nat}{c:List Value}{ty:TypeId}{f:Nat×Nat}{t}(aB:w0.heap[b]? = some (.cells c.toArray ty f))(he:Ext w0 w)(aH:c.length=n)(hk:aE (.agg c.toArray)):sU n (.pointer (some ⟨b,0,none⟩)) w aE t :=
 K.j8 (h4 (he.obj aB)) aH hk
theorem K.ud{α:Type}{sz i j n c:Nat}{R:World→Addr→α→Prop}{enc:α→List Value}[oZ R enc]{a:Addr}{xs:List α}{v:Value}{t}(a1:bG sz R w0 (.slice (some a) n c) xs)(he:Ext w0 w)(af:i<xs.length)(aI:(enc xs[i])[j]? = some v)
  (hk:aE v):pM (.pointer (some ((a.add (i*sz)).add j))) w aE t:=K.ld (he.cell (oZ.Jj _ _ _ (a1.at i af) j v aI)) hk
theorem K.ue{α:Type}{i n c:Nat}{R:World→Addr→α→Prop}{enc:α→List Value}[oZ R enc]{a:Addr}{xs:List α}{v:Value}{t}(a1:bG 1 R w0 (.slice (some a) n c) xs)(he:Ext w0 w)(af:i<xs.length)(aI:(enc xs[i])[0]? = some v)
  (hk:aE v):pM (.pointer (some (a.add (i*1)))) w aE t:=by
 have h:=oZ.Jj (R:=R) _ _ _ (a1.at i af) 0 v aI;rw[add_zero] at h;exact K.ld (he.cell h) hk
theorem K.uc{α:Type}{sz i n c m:Nat}{R:World→Addr→α→Prop}{enc:α→List Value}[oZ R enc]{a:Addr}{xs:List α}{t}(a1:bG sz R w0 (.slice (some a) n c) xs)(he:Ext w0 w)(af:i<xs.length)(aH:(enc xs[i]).length=m)
  (hk:aE (.agg (enc xs[i]).toArray)):sU m (.pointer (some (a.add (i*sz)))) w aE t:=K.j8 ((oZ.Jj _ _ _ (a1.at i af)).ext he) aH hk
theorem K.rZ{p:Prop}[Decidable p]{A B:Prop}{t}(h:p)(hk:A):jV (.bool (decide p)) A B t:=K.cond (fun _=>hk) fun bK=>absurd h bK
theorem K.td{p:Prop}[Decidable p]{A B:Prop}{t}(h:¬p)(hk:B):jV (.bool (decide p)) A B t:=K.cond (fun bK=>absurd bK h) fun _=>hk
theorem K.pX{u:Bool}{A B:Prop}{t}(h:u=true)(hk:A):jV (.bool u) A B t:=K.dO (fun _=>hk) fun bK=>by rw[h] at bK;cases bK
theorem K.qR{u:Bool}{A B:Prop}{t}(h:u=false)(hk:B):jV (.bool u) A B t:=K.dO (fun bK=>by rw[h] at bK;cases bK) fun _=>hk
theorem K.tX{sz:Nat}{a:Addr}{len cap:Nat}{k:IntKind}{i:Nat}{t}(h:i<len)(hk:aE (.pointer (some (a.add (i*sz))))):yG sz (.slice (some a) len cap) (.int k (i:Int)) aE t:=K.dx i rfl h hk
theorem K.sF{d n:Nat}{ty:TypeId}{cs:Array Value}{x:Operand}{r:List Step}{di:Fr→World→Prop}{vs:List Value}{t1 t}(av:∀v,bj (cc S d v) x = .agg vs.toArray)(aH:vs.length=n)(aw:cs.size=n)(h1:∀u∈vs,u.oneCell'=true)
  (hk:∀aq b,w.heap.size≤b→Ext w aq→aq.heap[b]? = some (.cells vs.toArray ty)→jy P r (cc S d (.pointer (some ⟨b,0,none⟩))) aq di ⟨⟩) :
  wB ty cs w (fun v w'=>jy P (⟨none,none,.e (.qs n (.tmp d) x)⟩ :: r) (put S (some d) v) w' di t1) t:=by
 refine K.new fun aq b aB he ea=>?_;simp -dsimp only[NU,NV,NW,NX,NY,NZ,N0,N1,N2,N3,N5,N6,N7,N8,N9,Oa,Ob,Oc,Od,cA,Oe,Of,Og,Oh,Oi,Oj,Ol,Om,On,Oo,rI,Ou,Ov,Ow,Ox,Oy,Oz,OA,OB,OC,wv,iF,c0,eT,eb,hg,kP,jh,mX,gp,OH,OI,OJ,OK,OL,OM,ON,OO,OP,OQ,OR,H1,OS,OT,OU,OV,OW,OX,OY,OZ,O0,O1,O2,O3,O4,O5,O6,O7,O8,O9,Pa,Pb,Pc,Pd,Pe,Pf,Pg,Ph,Pj,Pk,Po,Pp,M2,Pq,Pr,Ps,Pt,Pu,Pv,Pw,Px,Py,Pz,PA,PB,PC,PD,PE,PF,PG,PK,PL,PM,PN,PO,PQ,PR,PS,PT,PU,PV,PW,PX,PY,PZ,P0,P1,P2,P3,P4,P6,Bs,Bt,P7,P8,P9,Qa,Qb,Qc,Qd,Qk,Ql,Qm,Qn,Qo,Qp,Qq,Qr,Qs,Qt,Qv,Qw,Qx,Qy,Qz,QA,QB,QC,QD,QE,QF,QG,QH,QI,QJ,QK,QL,QM,QN,QO,QP,hI,eE,mu,Nat.reduceAdd,Nat.reduceEqDiff,reduceIte,reduceCtorEq,de,av];refine K.hT (cs:=vs.toArray) ea aw (by simpa using aH) (by simpa using h1) fun aU hw aK=>?_;exact hk aU b aB (hw.ext he aB) aK
theorem K.Cs{b:e1}{t}(i N:Nat)(hZ:Nat→Fr→World→Prop)(KW:S i = .int .i64 0)(ao:hZ 0 S w)
  (bd:∀(k:Nat) a8 w',(∀t,b.fi.contains t=false→a8 t=S t)→k≤N→a8 i = .int .i64 k→hZ k a8 w' →
   dR P b (hb (fun fh b1=>k<N∧fh i = .int .i64 ((k:Int)+1)∧hZ (k+1) fh b1) Q ⟨⟩) a8 w' ⟨⟩):wz P b Q S w t:=by
 refine K.loop (fun S w => ∃k:Nat,k≤N∧S i = .int .i64 k∧hZ k S w) (fun S _=>(N - intOf (S i)).toNat) ⟨0,Nat.zero_le _,by simpa using KW,ao⟩ ?_;rintro a8 w' cm ⟨k,hk,af,aI⟩;have h:=bd k a8 w' cm hk af aI;unfold dR hb at *;refine og b _ _ a8 w' (fun e fh b1 _ h=>?_) h
 match e,h with
 | .normal,⟨h1,U,ah⟩=>exact⟨⟨k+1,h1,by simpa using U,ah⟩,by simp[af,U,intOf];omega⟩
 | .exit _,h=>exact h
 | .ret,h=>exact h
 | .fA _,h=>exact h
theorem K.rr{gq:World→Prop}{d:TypeDesc}{r:Nat}{k v:Value}{es:Array MapEntry}{c:Nat}{t}(h1:w.heap[r]? = some (.map es c))(U:Instr.findNow d k es.toList 0=some none)
  (hk:∀aq,dz r w aq→aq.heap[r]? = some (.map (es.push { key:=k,val:=v,born:=c }) (c+1))→gq aq):wA d (.map (some r)) k v w gq t :=
 K.iQ h1 U (hk _ (dz.e2 _ _ _) (AV (cy h1)))
theorem K.yi{sz:Nat}{bm:Option Addr}{n cap:Nat}{x:Operand}{k:IntKind}{t}(h:Nat)(av:bj S x = .int k (h:Int))(ea:h≤cap)(hk:aE (.slice bm h cap)):yQ S sz (.slice bm n cap) none (some x) none aE t:=by
 refine K.lj 0 h cap (by simp[fZ]) (by simp[fZ,av]) (by simp[fZ]) ⟨Nat.zero_le _,ea,Nat.le_refl _⟩ (by simp) ?_;have e:(if cap=0 then bm else bm.map (·.add (0*sz)))=bm:=by
  split
  ·rfl
  ·cases bm with
   | none=>rfl
   | some a=>simp[add_zero]
 rw[e];exact hk
theorem K.aiK{sz:Nat}{bm:Option Addr}{n cap:Nat}{x:Operand}{k:IntKind}{t}(l:Nat)(av:bj S x = .int k (l:Int))(a1:l≤n∧n≤cap)(hk:aE (.slice (if cap=l then bm else bm.map (·.add (l*sz))) (n - l) (cap - l))) :
  yQ S sz (.slice bm n cap) (some x) none none aE t :=
 K.lj l n cap (by simp[fZ,av]) (by simp[fZ]) (by simp[fZ]) ⟨a1.1,a1.2,Nat.le_refl _⟩ (by simp) hk
end
theorem bG.head{α:Type}{sz:Nat}{R:World→Addr→α→Prop}{w:World}{bm:Option Addr}{n c:Nat}{xs:List α}(h:bG sz R w (.slice bm n c) xs)(k:Nat)(hk:k≤xs.length):bG sz R w (.slice bm k c) (xs.take k):=by
 have:=h.take k hk
 have e:(if c=0 then bm else bm.map (·.add (0*sz)))=bm:=by
  split
  ·rfl
  ·cases bm with
   | none=>rfl
   | some a=>simp[add_zero]
 rw[e] at this;exact this
theorem bG.len{α:Type}{sz:Nat}{R:World→Addr→α→Prop}{w:World}{bm:Option Addr}{n c:Nat}{xs:List α}(h:bG sz R w (.slice bm n c) xs):n=xs.length∧n≤c∧c≤maxLen:=by
 obtain⟨iR,cap,e,U,ah,_⟩:=h.ex;injection e with b2 ba bz
 subst ba bz;exact⟨rfl,U,ah⟩
theorem bG.tail{α:Type}{sz:Nat}{R:World→Addr→α→Prop}{w:World}{bm:Option Addr}{n c:Nat}{xs:List α}(h:bG sz R w (.slice bm n c) xs)(l:Nat)(a1:l≤xs.length) :
  bG sz R w (.slice (if c=l then bm else bm.map (·.add (l*sz))) (n - l) (c - l)) (xs.drop l):=by
 obtain⟨b2,ba,bz⟩:=h.len;subst b2;obtain⟨iR,cap,e,U,ah,aJ,bk⟩:=h.ex;injection e with b2 ba bz
 subst b2 bz;refine⟨_,_,by rw[List.length_drop],by rw[List.length_drop];omega,by omega,fun aH=>?_,fun a bu i af=>?_⟩
 ·have:xs≠[]:=by intro e;subst e;simp at aH
  have:=aJ this
  split
  ·exact this
  ·cases bm with
   | none=>cases this
   | some a=>rfl
 ·have cS:l+i<xs.length:=by rw[List.length_drop] at af;omega
  rw[if_neg (by omega)] at bu;cases bm with
  | none=>cases bu
  | some b =>
   simp only[Option.map_some,Option.some.injEq] at bu;subst bu;rw[add_add,←Nat.add_mul,List.getElem_drop];exact bk b rfl _ cS
structure Mod(A:Nat→Prop)(w w':World):Prop where
 os:w'.os=w.os
 tape:w'.tape=w.tape
 output:w'.output=w.output
 size:w.heap.size≤w'.heap.size
 block:∀k,k<w.heap.size→¬A k→w'.heap[k]? = w.heap[k]?
theorem Mod.refl(A:Nat→Prop)(w:World):Mod A w w:=⟨rfl,rfl,rfl,Nat.le_refl _,fun _ _ _=>rfl⟩
theorem Mod.trans{A:Nat→Prop}{a b c:World}(h:Mod A a b)(k:Mod A b c):Mod A a c :=
 ⟨k.os.trans h.os,k.tape.trans h.tape,k.output.trans h.output,Nat.le_trans h.size k.size,fun i af aH=>(k.block i (Nat.lt_of_lt_of_le af h.size) aH).trans (h.block i af aH)⟩
theorem Mod.then{A B:Nat→Prop}{a b c:World}(h:Mod B a b)(k:Mod A b c)(aG:∀i,i<a.heap.size→A i→B i):Mod B a c :=
 ⟨k.os.trans h.os,k.tape.trans h.tape,k.output.trans h.output,Nat.le_trans h.size k.size,fun i af aH=>(k.block i (Nat.lt_of_lt_of_le af h.size) fun e=>aH (aG i af e)).trans (h.block i af aH)⟩
theorem Ext.mod{A:Nat→Prop}{w w':World}(h:Ext w w'):Mod A w w':=⟨h.os,h.tape,h.output,h.size,fun _ hk _=>h.heap hk⟩
theorem dz.mod{A:Nat→Prop}{b:Nat}{w w':World}(h:dz b w w')(aB:A b):Mod A w w':=⟨h.os,h.tape,h.output,by rw[h.size];exact Nat.le_refl _,fun k _ aH=>h.block k fun e=>aH (e ▸ aB)⟩
theorem Mod.grown{A:Nat→Prop}{w w':World}{row:Option Nat}(h:w.grownBy w' row)(bd:∀k,row=some k→A k):Mod A w w':=⟨h.os,h.tape,h.output,h.size,fun k hk aH=>h.block k hk fun e=>aH (bd k e.symm)⟩
theorem Mod.ext{A:Nat→Prop}{w0 w w':World}(h:Mod A w w')(he:Ext w0 w)(ed:∀k,k<w0.heap.size→¬A k):Ext w0 w' :=
 ⟨h.os.trans he.os,h.tape.trans he.tape,h.output.trans he.output,Nat.le_trans he.size h.size,fun k hk=>(h.block k (Nat.lt_of_lt_of_le hk he.size) (ed k hk)).trans (he.heap hk)⟩
theorem Mod.obj{A:Nat→Prop}{w w':World}{k:Nat}{ak:Obj}(h:Mod A w w')(aH:¬A k)(hk:w.heap[k]? = some ak):w'.heap[k]? = some ak:=(h.block k (cy hk) aH).trans hk
theorem Mod.Ip{A B:Nat→Prop}{w w':World}(h:Mod A w w')(aG:∀k,A k→B k):Mod B w w':=⟨h.os,h.tape,h.output,h.size,fun k hk aH=>h.block k hk fun e=>aH (aG k e)⟩
def bg{α:Type}(enc:α→List Value)(e:TypeId)(sz base:Nat)(w:World)(v:Value)(xs:List α):Prop:=w.ownsRow base e sz v xs.length (xs.flatMap enc)
section
variable{α:Type}{enc:α→List Value}{e:TypeId}{sz base:Nat}{w w':World}{v:Value}{xs:List α}
theorem bg.nil(enc:α→List Value)(e:TypeId)(sz base:Nat)(w:World):bg enc e sz base w (.slice none 0 0) []:=World.ownsRow_nil w base e sz
theorem bg.ext(he:Ext w w')(h:bg enc e sz base w v xs):bg enc e sz base w' v xs:=agV he h
theorem bg.wr{b:Nat}(hw:dz b w w')(aB:b<base)(h:bg enc e sz base w v xs):bg enc e sz base w' v xs :=
 World.ownsRow.kept (row:=some b) h ⟨hw.os,hw.tape,hw.output,by rw[hw.size];exact Nat.le_refl _,fun k _ hk=>hw.block k (fun e=>hk (by rw[e]))⟩ (by
  cases aO:v.ownBlock with
  | none=>exact .inl rfl
  | some k=>exact .inr (by have:=(World.ownsRow.lt h k aO).1;intro e;injection e with e;omega))
theorem bg.lt(h:bg enc e sz base w v xs):∀k,v.ownBlock=some k→base≤k∧k<w.heap.size:=World.ownsRow.lt h
theorem bg.form(h:bg enc e sz base w v xs):∃bm cap,v = .slice bm xs.length cap∧xs.length≤cap∧cap≤maxLen:=by
 obtain⟨bm,cap,h1,U,ah,_⟩:=VS h;exact⟨bm,cap,h1,U,ah⟩
theorem bg.od(dn:∀x,(enc x).length=sz)(h:bg enc e sz base w v xs):bG sz (Flat enc) w v xs:=agX dn h
theorem bg.head{bm:Option Addr}{n cap:Nat}(dn:∀x,(enc x).length=sz)(h:bg enc e sz base w (.slice bm n cap) xs)(k:Nat)(hk:k≤xs.length):bg enc e sz base w (.slice bm k cap) (xs.take k):=by
 have q8:∀(xs:List α) (k:Nat),(xs.flatMap enc).take (k*sz)=(xs.take k).flatMap enc:=by
  intro xs
  induction xs with
  | nil=>intro k;simp
  | cons x xs e6 =>
   intro k;cases k with
   | zero=>simp
   | succ k =>
    simp only[List.flatMap_cons,List.take_succ_cons];rw[List.take_append,dn,show(k+1)*sz - sz=k*sz from by rw[Nat.add_mul];omega,e6,List.take_of_length_le (by rw[dn,Nat.add_mul];omega)]
 have a1:(xs.take k).length=k:=by simp[List.length_take];omega
 refine⟨by rw[a1,xd dn,a1],?_⟩;rcases h.2 with ⟨h1,U⟩ | ⟨g,rU,cur,h1,U,ah,aJ,bk,bY,cO⟩
 ·injection h1 with b2 ba bz
  subst b2 bz
  have:xs.length=0:=U
  exact .inl ⟨by congr 1;omega,by omega⟩
 ·injection h1 with b2 ba bz
  subst b2 bz;refine .inr ⟨g,cap,cur,by rw[a1],U,ah,by omega,bk,bY,?_⟩;rw[a1,←q8,←cO,List.take_take,Nat.min_eq_left (Nat.mul_le_mul_right _ hk)]
theorem K.yX{P:Program}{di:Value→World→Prop}{ty:TypeId}{b:Nat}{s:Value}{a:Addr}{m c:Nat}{ys:List α}{t}(aG:bg enc e sz base w s xs)(dn:∀x,(enc x).length=sz)(aw:eB w a (ys.flatMap enc))(hm:m=ys.length)
  (h1:∀y,∀u∈enc y,u.oneCell'=true)(aB:(xs.length+ys.length)*b≤140737488355328)(mA:xs.length+ys.length≤maxLen)(lD:base≤w.heap.size)
  (hk:∀ck w',bg enc e sz base w' ck (xs++ys)→w.grownBy w' s.ownBlock→di ck w'):mg P ty e sz b s (.slice (some a) m c) w di t:=by
 subst hm;refine K.YH aG aw (xd dn ys) (fun u hu=>by obtain⟨y,_,bS⟩:=List.mem_flatMap.1 hu;exact h1 y u bS) mA aB lD fun ck w' mG aV=>hk ck w' ?_ aV;unfold bg;rw[List.length_append,List.flatMap_append];exact mG
end
end bt
end
section
namespace bt
open Go Go.RowKit
section
variable{P:Program}{di:Value→World→Prop}{α:Type}{enc:α→List Value}{e:TypeId}{sz base y1:Nat}{w:World}{s x:Value}{xs ys:List α}
theorem K.yZ{ty:TypeId}{b:Nat}{t}(aG:bg enc e sz base w s xs)(av:bg enc e sz y1 w x ys)(dn:∀x,(enc x).length=sz)(h1:∀y,∀u∈enc y,u.oneCell'=true)(aB:(xs.length+ys.length)*b≤140737488355328)
  (mA:xs.length+ys.length≤maxLen)(lD:base≤w.heap.size)(hk:∀ck w',bg enc e sz base w' ck (xs++ys)→w.grownBy w' s.ownBlock→di ck w'):mg P ty e sz b s x w di t:=by
 rcases av.2 with ⟨rfl,ao⟩ | ⟨g,cap,cur,rfl,GF,aV,ah,aJ,bk,bY⟩
 ·have:ys=[]:=List.eq_nil_of_length_eq_zero ao
  subst this;rw[List.append_nil] at hk;refine K.app fun⟨aL,i,z,af,bL,Dn,CK,Ac,LA⟩=>?_;exact⟨ty,s,w,run_append_owned_none w base ty ty e i sz aL af s _ _ aG,hk s w aG ⟨rfl,rfl,rfl,Nat.le_refl _,fun _ _ _=>rfl⟩⟩
 ·exact K.yX aG dn (fun j u aI=>World.ownsRow.cells av (g:=g) rfl j u aI) rfl h1 aB mA lD hk
theorem bg.empty{b:Nat}(aB:base≤b)(h:w.heap[b]? = some (.cells #[] e)):bg enc e sz base w (.slice (some ⟨b,0,none⟩) 0 0) ([]:List α):=agU aB h
theorem bg.low{v:Value}(aB:y1≤base)(h:bg enc e sz base w v xs):bg enc e sz y1 w v xs:=agW aB h
end
end bt
end
section
namespace bt
open Go
def ab(n:Nat):Operand:=.tmp n
def ai(n:Int):Operand:=.const (.int .i64 n)
def b4(b:Bool):Operand:=.const (.bool b)
def bh(d:Nat)(i:sW):Step:=⟨some d,none,.p i⟩
def nz(d:Nat)(i:sY):Step:=⟨some d,none,.r i⟩
def ay(d:Nat)(i:qy):Step:=⟨some d,none,.e i⟩
def dh(d:Nat)(i:oY):Step:=⟨some d,none,.c i⟩
def hd(i:qy):Step:=⟨none,none,.e i⟩
def uM(j:Nat)(b:Bool)(s:Step):Step:=⟨s.dst,some (j,b),s.i⟩
def I(d n:Nat):Step:=⟨some d,none,.p (.l7 (.tmp n))⟩
def aj(d:Nat)(x:Operand):Step:=⟨some d,none,.p (.l7 x)⟩
def ag(d k n:Nat):Step:=⟨some d,none,.p (.jK k (.tmp n))⟩
def ae(d n:Nat):Step:=⟨some d,none,.r (.ld (.tmp n))⟩
def bc(d k a i:Nat):Step:=⟨some d,none,.p (.ib k (.tmp a) (.tmp i))⟩
def ys(a v:Nat):Step:=⟨none,none,.e (.st (.tmp a) (.tmp v))⟩
def bI(d n:Nat):Step:=⟨some d,none,.p (.Aj (.tmp n))⟩
def an:Value:=.int .i64 0
def aP:Value:=.slice none 0 0
def cu:Value:=.string ⟨#[]⟩
def bl(op:BinOp)(t:TypeId)(d a b:Nat):Step:=⟨some d,none,.p (.bin op t (.tmp a) (.tmp b))⟩
def az(op:BinOp)(t:TypeId)(d a:Nat)(n:Int):Step:=⟨some d,none,.p (.bin op t (.tmp a) (.const (.int .i64 n)))⟩
def du(d a b:Nat):Step:=⟨some d,none,.p (.pick (.tmp a) (.tmp b) (.const (.bool false)))⟩
def ct(d a b:Nat):Step:=⟨some d,none,.p (.pick (.tmp a) (.const (.bool true)) (.tmp b))⟩
def J(b7:List Step)(b:e1):e1:=.seq (.bF b7) b
def aD(n:Nat)(a b:e1):e1:=.cond (.tmp n) a b
def a6(d k n:Nat):Step:=⟨some d,none,.r (.j8 k (.tmp n))⟩
def cf(k a v:Nat):Step:=⟨none,none,.e (.qs k (.tmp a) (.tmp v))⟩
def ht(d n:Nat):Step:=⟨some d,none,.p (.AG (.tmp n))⟩
def bZ(d n i:Nat):Step:=⟨some d,none,.p (.ext (.tmp n) i)⟩
def bb(d:Nat)(f:FuncId)(l:List Nat):Step:=⟨some d,none,.c (.fn f (l.map .tmp))⟩
def eS(n m:Nat)(b:e1):e1:=.seq (.cond (.tmp n) .skip (.exit m)) b
def aS(n:Nat)(s:Step):Step:=uM n true s
def au(n:Nat)(s:Step):Step:=uM n false s
def al(s:Step)(k:eD):eD:=.take s k
def e0(t:TypeId)(a b:Nat):e1:=.bF [⟨some a,none,.p (.bin .add t (.tmp b) (.const (.int .i64 1)))⟩,⟨some b,none,.p (.l7 (.tmp a))⟩]
theorem bM{A B:Prop}(k:B)(h:B→A:=by
 intro q;dsimp only[ab,ai,b4,bh,nz,ay,dh,hd,uM,I,aj,ag,ae,bc,ys,bI,an,aP,cu,bl,az,du,ct,J,aD,a6,cf,ht,bZ,bb,eS,e0,aS,au,al,List.map_cons,List.map_nil];exact q):A:=h k
end bt
end