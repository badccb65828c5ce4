/- Parts. -/
import Derived.Test.YtakmdjclehkglaaGreatDoorQasb
import Derived.RowKit
import Derived.ChangeSame
import Derived.Carry
import Derived.OpenShut
import Derived.Deep.Slices
import Derived.Deep.Fields
import Derived.Lib.LaidTab
import Derived.Laws.OwnMore
set_option linter.all false
section
namespace ba
open Go Go.RowKit
structure Tok{α:Type}(a:α):Type where
def eg(P:D_)(c:eN)(Q:eu->Fr->A_->Prop)(S:Fr)(w:A_)(_:Tok (P,c,Q)):Prop:=dV P c Q S w
def kG(P:D_)(b7:C_ Step)(S:Fr)(w:A_)(K:Fr->A_->Prop)(_:Tok (P,b7,K)):Prop:=steps P b7 S w K
def mg(P:D_)(b7:C_ Step)(S:Fr)(w:A_)(K:Fr->Prop)(_:Tok (P,b7,K)):Prop:=tX P b7 S w K
def gj(P:D_)(w0:A_)(x:eT)(S:Fr)(w:A_)(K:Fr->A_->Prop)(_:Tok (P,w0,x,K)):Prop:=nt P w0 x S w K
def AP(P:D_)(w0:A_)(s:Step)(S:Fr)(K:Fr->Prop)(_:Tok (P,w0,s,K)):Prop:=GK P w0 s S K
def tm(P:D_)(s:Step)(S:Fr)(w:A_)(K:Fr->A_->Prop)(_:Tok (P,s,K)):Prop:=pP P s S w K
def sZ(P:D_)(w0:A_)(s:Step)(S:Fr)(w:A_)(K:Fr->A_->Prop)(_:Tok (P,w0,s,K)):Prop:=DB P w0 s S w K
def qQ(P:D_)(i:Ins)(S:Fr)(w:A_)(K:B_->A_->Prop)(_:Tok (P,i,K)):Prop:=kJ P i S w K
def oa(P:D_)(i:Ins)(S:Fr)(w:A_)(K:B_->A_->Prop)(_:Tok (P,i,K)):Prop:=mq P i S w K
def vv(P:D_)(i:qP)(S:Fr)(w:A_)(K:B_->A_->Prop)(_:Tok (P,i,K)):Prop:=SX P i S w K
def yY(P:D_)(x:B_)(l:C_ B_)(w:A_)(K:B_->A_->Prop)(_:Tok (P,K)):Prop:=SY P x l w K
def py(P:D_)(i:Ins)(S:Fr)(w:A_)(K:B_->Prop)(_:Tok (P,i,K)):Prop:=mu P i S w K
def vD(P:D_)(i:qP)(S:Fr)(w:A_)(K:B_->Prop)(_:Tok (P,i,K)):Prop:=adP P i S w K
def Hx(P:D_)(f:E_)(l:C_ B_)(w:A_)(K:B_->Prop)(_:Tok (P,f,K)):Prop:=Uw P f l w K
def Dt(P:D_)(x:B_)(l:C_ B_)(w:A_)(K:B_->Prop)(_:Tok (P,K)):Prop:=adR P x l w K
def e4(P:D_)(i:xJ)(S:Fr)(K:B_->Prop)(_:Tok (P,i,K)):Prop:=px P i S K
def pz(i:vE)(S:Fr)(w:A_)(K:B_->Prop)(_:Tok (i,K)):Prop:=oc i S w K
def jk(P:D_)(i:sK)(S:Fr)(w:A_)(K:B_->A_->Prop)(_:Tok (P,i,K)):Prop:=n2 P i S w K
def vu(P:D_)(i:qP)(S:Fr)(w:A_)(K:B_->A_->Prop)(_:Tok (P,i,K)):Prop:=rU P i S w K
def hb(P:D_)(op:BinOp)(t:F_)(dk:G_)(dC:G_)(x:B_)(y:B_)(K:B_->Prop)(_:Tok (P,op,t,dk,dC,K)):Prop:=oU P op t dk dC x y K
def zh(op:UnOp)(x:B_)(K:B_->Prop)(_:Tok (op,K)):Prop:=Bm op x K
def Dd(k:IntKind)(x:B_)(K:B_->Prop)(_:Tok (k,K)):Prop:=G6 k x K
def pB(k:IntKind)(n:Int)(K:B_->Prop)(_:Tok (k,K)):Prop:=sT k n K
def k4(v:B_)(A:Prop)(B:Prop)(_:Tok (A,B)):Prop:=mU v A B
def kt(v:B_)(b:Bool)(A:Prop)(B:Prop)(C:Prop)(_:Tok (b,A,B,C)):Prop:=mn v b A B C
def Dh(off:Nat)(x:B_)(K:B_->Prop)(_:Tok (off,K)):Prop:=Ha off x K
def A8(sz:Nat)(x:B_)(i:B_)(K:B_->Prop)(_:Tok (sz,K)):Prop:=Hg sz x i K
def Hf(len:Nat)(sz:Nat)(x:B_)(i:B_)(K:B_->Prop)(_:Tok (len,sz,K)):Prop:=Mo len sz x i K
def Hj(x:B_)(i:B_)(K:B_->Prop)(_:Tok (K)):Prop:=Mq x i K
def Hi(len:Nat)(x:B_)(i:B_)(K:B_->Prop)(_:Tok (len,K)):Prop:=Mp len x i K
def Hd(off:Nat)(x:B_)(K:B_->Prop)(_:Tok (off,K)):Prop:=Hc off x K
def Di(off:Nat)(n:Nat)(x:B_)(K:B_->Prop)(_:Tok (off,n,K)):Prop:=Hb off n x K
def G1(S:Fr)(z:C_ B_)(pl:C_ (Nat×Nat))(dd:C_ (Nat×G_))(K:B_->Prop)(_:Tok (z,pl,dd,K)):Prop:=Mf S z pl dd K
def rZ(S:Fr)(sz:Nat)(x:B_)(aR:H_ G_)(U:H_ G_)(mx:H_ G_)(K:B_->Prop)(_:Tok (sz,aR,U,mx,K)):Prop:=MB S sz x aR U mx K
def HA(S:Fr)(x:B_)(aR:H_ G_)(U:H_ G_)(K:B_->Prop)(_:Tok (aR,U,K)):Prop:=MA S x aR U K
def vx(x:B_)(i:Nat)(K:B_->Prop)(_:Tok (i,K)):Prop:=xF x i K
def Dl(x:B_)(K:B_->Prop)(_:Tok (K)):Prop:=Ho x K
def Dk(x:B_)(K:B_->Prop)(_:Tok (K)):Prop:=Hm x K
def Db(x:B_)(K:B_->Prop)(_:Tok (K)):Prop:=G5 x K
def Dm(x:B_)(y:B_)(K:B_->Prop)(_:Tok (K)):Prop:=Hq x y K
def Dn(x:B_)(y:B_)(K:B_->Prop)(_:Tok (K)):Prop:=Hr x y K
def y7(x:B_)(K:B_->Prop)(_:Tok (K)):Prop:=y6 x K
def rW(x:B_)(w:A_)(K:B_->Prop)(_:Tok (K)):Prop:=Hl x w K
def ui(n:Nat)(x:B_)(w:A_)(K:B_->Prop)(_:Tok (n,K)):Prop:=Hk n x w K
def Ba(d:TypeDesc)(z:B_)(ok:Bool)(m:B_)(k:B_)(w:A_)(K:B_->Prop)(_:Tok (d,z,ok,K)):Prop:=Mt d z ok m k w K
def Hn(m:B_)(w:A_)(K:B_->Prop)(_:Tok (K)):Prop:=Ms m w K
def qZ(x:B_)(v:B_)(w:A_)(K:A_->Prop)(_:Tok (K)):Prop:=vG x v w K
def zf(n:Nat)(x:B_)(v:B_)(w:A_)(K:A_->Prop)(_:Tok (n,K)):Prop:=Bl n x v w K
def Bd(e:F_)(sz:Nat)(b:Nat)(z:B_)(l:B_)(c:B_)(w:A_)(K:B_->A_->Prop)(_:Tok (e,sz,b,z,K)):Prop:=Mu e sz b z l c w K
def C9(S:Fr)(e:F_)(len:Nat)(sz:Nat)(z:C_ B_)(dd:C_ (Nat×G_))(w:A_)(K:B_->A_->Prop)(_:Tok (e,len,sz,z,dd,K)):Prop:=G0 S e len sz z dd w K
def ml(P:D_)(t:F_)(e:F_)(sz:Nat)(b:Nat)(s:B_)(x:B_)(w:A_)(K:B_->A_->Prop)(_:Tok (P,t,e,sz,b,K)):Prop:=yX P t e sz b s x w K
def y3(d:TypeDesc)(m:B_)(k:B_)(v:B_)(w:A_)(K:A_->Prop)(_:Tok (d,K)):Prop:=Mv d m k v w K
def Hu(x:B_)(w:A_)(K:B_->A_->Prop)(_:Tok (K)):Prop:=Mx x w K
def Hy(x:B_)(w:A_)(K:B_->A_->Prop)(_:Tok (K)):Prop:=UG x w K
def sP(P:D_)(op:Op)(ty:F_)(S:Fr)(w:A_)(K:B_->A_->Prop)(_:Tok (P,op,ty,K)):Prop:=UE P op ty S w K
def A3(P:D_)(f:E_)(l:C_ B_)(w:A_)(K:B_->A_->Prop)(_:Tok (P,f,K)):Prop:=G4 P f l w K
def HB(P:D_)(f:E_)(l:C_ B_)(w:A_)(K:B_->A_->Prop)(Z:C_ PanicEntry->A_->Prop)(_:Tok (P,f,K,Z)):Prop:=zg P f l w K Z
def xy(P:D_)(x:B_)(m:String)(l:C_ B_)(w:A_)(K:B_->A_->Prop)(_:Tok (P,m,K)):Prop:=Da P x m l w K
def Mz(P:D_)(x:B_)(m:String)(l:C_ B_)(w:A_)(K:B_->Prop)(_:Tok (P,m,K)):Prop:=adQ P x m l w K
def Ds(v:B_)(Z:C_ PanicEntry->Prop)(_:Tok (Z)):Prop:=vC v Z
def vw(P:D_)(x:B_)(l:C_ B_)(w:A_)(K:B_->A_->Prop)(_:Tok (P,K)):Prop:=A2 P x l w K
def y5(t:F_)(cs:Array B_)(w:A_)(K:B_->A_->Prop)(_:Tok (t,K)):Prop:=adJ t cs w K
def Hs(w:A_)(K:B_->A_->Prop)(_:Tok (K)):Prop:=adI w K
def y2(P:D_)(b:eN)(Q:eu->Fr->A_->Prop)(S:Fr)(w:A_)(_:Tok (P,b,Q)):Prop:=TQ P b Q S w
def jC(r:C_ mX)(S:Fr)(w:A_)(K:C_ B_->Prop)(_:Tok (r,K)):Prop:=p3 r S w K
def ic(N:Fr->A_->Prop)(Q:eu->Fr->A_->Prop)(_:Tok (N,Q)):eu->Fr->A_->Prop:=vm N Q
def q3(i:Nat)(Q:eu->Fr->A_->Prop)(_:Tok (i,Q)):eu->Fr->A_->Prop:=Bv i Q
def ra(r:C_ mX)(R:B_->A_->Prop)(_:Tok (r,R)):eu->Fr->A_->Prop:=D3 r R
def v7(r:C_ mX)(R:B_->A_->Prop)(Z:C_ PanicEntry->A_->Prop)(_:Tok (r,R,Z)):eu->Fr->A_->Prop:=WG r R Z
section
variable{P:Program}{Q:eu->Fr->World->Prop}{N cV:Fr->World->Prop}{h0:Fr->Prop}{aE:Value->Prop}{K:Value->World->Prop}{mr:List Value->Prop}{R:Value->World->Prop}{Z:List PanicEntry->World->Prop}{Bq:List PanicEntry->Prop}{S:Fr}{w:World}{A B C:Prop}
set_option linter.unusedVariables false
theorem Sr  {t}:eg P .skip Q S w t=Q .normal S w:=propext Iff.rfl
theorem Ss  {b7}{t}:eg P (.dv b7) Q S w t=kG P b7 S w (fun S w=>Q .normal S w) ⟨⟩:=propext Iff.rfl
theorem St  {b7}{t}:eg P (.q6 b7) Q S w t=mg P b7 S w (fun S => ∀w',Ext w w'->Q .normal S w') ⟨⟩:=propext Iff.rfl
theorem Su  {x}{t}:eg P (.dp x) Q S w t=(∀w1,Ext w w1->gj P w1 x S w1 (fun S w=>Q .normal S w) ⟨⟩):=propext Iff.rfl
theorem Sv  {w0}{t}:gj P w0 .done S w cV t=cV S w:=propext Iff.rfl
theorem Sw  {w0}{t}:gj P w0 .nil S w cV t=True:=propext Iff.rfl
theorem Sx  {w0 s r}{t}:gj P w0 (.take s r) S w cV t=AP P w0 s S (fun S=>gj P w0 r S w cV ⟨⟩) ⟨⟩:=propext Iff.rfl
theorem Sy  {w0 s r}{t}:gj P w0 (.alt s r .nil) S w cV t=sZ P w0 s S w (fun S w=>gj P w0 r S w cV ⟨⟩) ⟨⟩:=and_true _
theorem Sz  {w0 s r iN hv lz}{t}:gj P w0 (.alt s r (.alt iN hv lz)) S w cV t=(sZ P w0 s S w (fun S w=>gj P w0 r S w cV ⟨⟩) ⟨⟩/\gj P w0 (.alt iN hv lz) S w cV ⟨⟩):=propext Iff.rfl
theorem SA  {w0 s r iN hv lz}{t}:gj P w0 (.alt s r (.bh iN hv lz)) S w cV t=(sZ P w0 s S w (fun S w=>gj P w0 r S w cV ⟨⟩) ⟨⟩/\gj P w0 (.bh iN hv lz) S w cV ⟨⟩):=propext Iff.rfl
theorem SC  {w0 s r}{t}:gj P w0 (.bh s r .nil) S w cV t=tm P s S w (fun S w=>gj P w0 r S w cV ⟨⟩) ⟨⟩:=and_true _
theorem SD  {w0 s r iN hv lz}{t}:gj P w0 (.bh s r (.alt iN hv lz)) S w cV t=(tm P s S w (fun S w=>gj P w0 r S w cV ⟨⟩) ⟨⟩/\gj P w0 (.alt iN hv lz) S w cV ⟨⟩):=propext Iff.rfl
theorem SE  {w0 s r iN hv lz}{t}:gj P w0 (.bh s r (.bh iN hv lz)) S w cV t=(tm P s S w (fun S w=>gj P w0 r S w cV ⟨⟩) ⟨⟩/\gj P w0 (.bh iN hv lz) S w cV ⟨⟩):=propext Iff.rfl
theorem SF  {d i}{t}:tm P ⟨d,none,i⟩ S w cV t=oa P i S w (fun v w'=>cV (put S d v) w') ⟨⟩:=propext Iff.rfl
theorem SG  {d j b i}{t}:tm P ⟨d,some (j,b),i⟩ S w cV t=kt (S j) b (oa P i (b4 S j (.bool b)) w (fun v w'=>cV (put (b4 S j (.bool b)) d v) w') ⟨⟩) (cV (put (b4 S j (.bool (!b))) d undef) w) (cV (put S d undef) w) ⟨⟩:=propext Iff.rfl
theorem SH  {w0 d i}{t}:AP P w0 ⟨d,none,i⟩ S h0 t=py P i S w0 (fun v=>h0 (put S d v)) ⟨⟩:=propext Iff.rfl
theorem SI  {w0 d j b i}{t}:AP P w0 ⟨d,some (j,b),i⟩ S h0 t=kt (S j) b (py P i (b4 S j (.bool b)) w0 (fun v=>h0 (put (b4 S j (.bool b)) d v)) ⟨⟩) (h0 (put (b4 S j (.bool (!b))) d undef)) (h0 (put S d undef)) ⟨⟩:=propext Iff.rfl
theorem SJ  {w0 d i}{t}:sZ P w0 ⟨d,none,i⟩ S w cV t=qQ P i S w (fun v w'=>Ext w0 w'/\cV (put S d v) w') ⟨⟩:=propext Iff.rfl
theorem SK  {w0 d j b i}{t}:sZ P w0 ⟨d,some (j,b),i⟩ S w cV t=kt (S j) b (qQ P i (b4 S j (.bool b)) w (fun v w'=>Ext w0 w'/\cV (put (b4 S j (.bool b)) d v) w') ⟨⟩) (cV (put (b4 S j (.bool (!b))) d undef) w) (cV (put S d undef) w) ⟨⟩:=propext Iff.rfl
theorem cB  {a b}{t}:eg P (.seq a b) Q S w t=eg P a (ic (fun S w=>eg P b Q S w ⟨⟩) Q ⟨⟩) S w ⟨⟩:=propext Iff.rfl
theorem SL  {c x y}{t}:eg P (.cond c x y) Q S w t=k4 (aX S c) (eg P x Q S w ⟨⟩) (eg P y Q S w ⟨⟩) ⟨⟩:=propext Iff.rfl
theorem SM  {id b}{t}:eg P (.cx id b) Q S w t=eg P b (q3 id Q ⟨⟩) S w ⟨⟩:=propext Iff.rfl
theorem SN  {id}{t}:eg P (.exit id) Q S w t=Q (.exit id) S w:=propext Iff.rfl
theorem SO  {t}:eg P .ret Q S w t=Q .ret S w:=propext Iff.rfl
theorem SP  {b7 d f l}{t}:eg P (.fG b7 d f l) Q S w t=kG P b7 S w (fun S w=>HB P f (l.map (aX S)) w (fun v w'=>Q .normal (put S d v) w') (fun c w'=>Q (.gx c) S w') ⟨⟩) ⟨⟩:=propext Iff.rfl
theorem SQ  {b7 x}{t}:eg P (.sB b7 x) Q S w t=kG P b7 S w (fun S w=>Ds (aX S x) (fun c=>Q (.gx c) S w) ⟨⟩) ⟨⟩:=propext Iff.rfl
theorem SR  {i:F_}{v:B_}{t}:Ds (.iface i v) Bq t=Bq [{ v:=.iface i v,recovered:=false }]:=ba.aoy i v Bq
theorem SS  {c}{t}:ic N Q t (.gx c) S w=Q (.gx c) S w:=propext Iff.rfl
theorem SU{i}{c}{t}:q3 i Q t (.gx c) S w=Q (.gx c) S w:=propext Iff.rfl
theorem SV{r}{t}:v7 r R Z t .normal S w=jC r S w (fun vs=>R (hl vs) w) ⟨⟩:=propext Iff.rfl
theorem uf{r}{t}:v7 r R Z t .ret S w=jC r S w (fun vs=>R (hl vs) w) ⟨⟩:=propext Iff.rfl
theorem SZ{r}{c}{t}:v7 r R Z t (.gx c) S w=Z c w:=propext Iff.rfl
theorem S0  {b}{t}:eg P (.loop b) Q S w t=y2 P b Q S w ⟨⟩:=propext Iff.rfl
theorem S1  {t}:ic N Q t .normal S w=N S w:=propext Iff.rfl
theorem S2  {i}{t}:ic N Q t (.exit i) S w=Q (.exit i) S w:=propext Iff.rfl
theorem S3  {t}:ic N Q t .ret S w=Q .ret S w:=propext Iff.rfl
theorem S4{i}{t}:q3 i Q t .normal S w=Q .normal S w:=propext Iff.rfl
theorem S5{i}{t}:q3 i Q t .ret S w=Q .ret S w:=propext Iff.rfl
theorem S6{i}{j}{t}:q3 i Q t (.exit j) S w=if j=i then Q .normal S w else Q (.exit j) S w:=propext Iff.rfl
theorem S7{r}{t}:ra r R t .normal S w=jC r S w (fun vs=>R (hl vs) w) ⟨⟩:=propext Iff.rfl
theorem yZ{r}{t}:ra r R t .ret S w=jC r S w (fun vs=>R (hl vs) w) ⟨⟩:=propext Iff.rfl
theorem jQ  {t}:kG P [] S w cV t=cV S w:=propext Iff.rfl
theorem da  {d i r}{t}:kG P (⟨d,none,i⟩ :: r) S w cV t=oa P i S w (fun v w'=>kG P r (put S d v) w' cV ⟨⟩) ⟨⟩:=propext Iff.rfl
theorem fJ  {d j b i r}{t}:kG P (⟨d,some (j,b),i⟩ :: r) S w cV t=kt (S j) b (oa P i (b4 S j (.bool b)) w (fun v w'=>kG P r (put (b4 S j (.bool b)) d v) w' cV ⟨⟩) ⟨⟩) (kG P r (put (b4 S j (.bool (!b))) d undef) w cV ⟨⟩) (kG P r (put S d undef) w cV ⟨⟩) ⟨⟩:=propext Iff.rfl
theorem eo  {t}:mg P [] S w h0 t=h0 S:=propext Iff.rfl
theorem iP  {d i r}{t}:mg P (⟨d,none,i⟩ :: r) S w h0 t=py P i S w (fun v=>mg P r (put S d v) w h0 ⟨⟩) ⟨⟩:=propext Iff.rfl
theorem iE  {d j b i r}{t}:mg P (⟨d,some (j,b),i⟩ :: r) S w h0 t=kt (S j) b (py P i (b4 S j (.bool b)) w (fun v=>mg P r (put (b4 S j (.bool b)) d v) w h0 ⟨⟩) ⟨⟩) (mg P r (put (b4 S j (.bool (!b))) d undef) w h0 ⟨⟩) (mg P r (put S d undef) w h0 ⟨⟩) ⟨⟩:=propext Iff.rfl
theorem gR  {i}{t}:qQ P (.p i) S w K t=e4 P i S (fun v=>K v w) ⟨⟩:=propext Iff.rfl
theorem iF  {i}{t}:qQ P (.r i) S w K t=pz i S w (fun v=>K v w) ⟨⟩:=propext Iff.rfl
theorem gk  {i}{t}:qQ P (.e i) S w K t=jk P i S w K ⟨⟩:=propext Iff.rfl
theorem Tc  {i}{t}:qQ P (.c i) S w K t=vu P i S w K ⟨⟩:=propext Iff.rfl
theorem Td  {i}{t}:oa P (.p i) S w K t=e4 P i S (fun v=>K v w) ⟨⟩:=propext Iff.rfl
theorem Te  {i}{t}:oa P (.r i) S w K t=pz i S w (fun v=>K v w) ⟨⟩:=propext Iff.rfl
theorem Tf  {i}{t}:oa P (.e i) S w K t=jk P i S w K ⟨⟩:=propext Iff.rfl
theorem Tg  {i}{t}:oa P (.c i) S w K t=vv P i S w K ⟨⟩:=propext Iff.rfl
theorem Th  {i}{t}:py P (.p i) S w aE t=e4 P i S aE ⟨⟩:=propext Iff.rfl
theorem Ti  {i}{t}:py P (.r i) S w aE t=pz i S w aE ⟨⟩:=propext Iff.rfl
theorem Tj  {i}{t}:py P (.c i) S w aE t=vD P i S w aE ⟨⟩:=propext Iff.rfl
theorem Tk  {f l}{t}:vD P (.fn f l) S w aE t=Hx P f (l.map (aX S)) w aE ⟨⟩:=propext Iff.rfl
theorem Tl  {x m l}{t}:vD P (.inv x m l) S w aE t=Mz P (aX S x) m (l.map (aX S)) w aE ⟨⟩:=propext Iff.rfl
theorem Tm  {x l}{t}:vD P (.val x l) S w aE t=Dt P (aX S x) (l.map (aX S)) w aE ⟨⟩:=propext Iff.rfl
theorem H1  {t}:kt (.bool true) true A B C t=A:=ba.ahS A B C
theorem Tn  {t}:kt (.bool true) false A B C t=B:=ba.ahR A B C
theorem To  {t}:kt (.bool false) true A B C t=B:=ba.ahQ A B C
theorem Tp  {t}:kt (.bool false) false A B C t=A:=ba.ahP A B C
theorem Tq  (u:Bool){t}:kt undef u A B C t=C:=ba.ahT u A B C
theorem Tr  (u:Bool){t}:kt (.bool u) true A B C t=k4 (.bool u) A B ⟨⟩:=(ba.Xi u true A B C).trans (by rfl)
theorem Ts  (u:Bool){t}:kt (.bool u) false A B C t=k4 (.bool u) B A ⟨⟩:=(ba.Xi u false A B C).trans (by rfl)
theorem Tt  {t}:k4 (.bool true) A B t=A:=ae8 A B
theorem Tu  {t}:k4 (.bool false) A B t=B:=ae6 A B
theorem Tv  (u:Bool){t}:k4 (.bool (!u)) A B t=k4 (.bool u) B A ⟨⟩:=ae7 u A B
theorem Tw  {x}{t}:e4 P (.np x) S aE t=aE (aX S x):=propext Iff.rfl
theorem Tx  {c x y}{t}:e4 P (.pick c x y) S aE t=k4 (aX S c) (aE (aX S x)) (aE (aX S y)) ⟨⟩:=propext Iff.rfl
theorem Ty  {op ty x y}{t}:e4 P (.bin op ty x y) S aE t=hb P op ty x y (aX S x) (aX S y) aE ⟨⟩:=propext Iff.rfl
theorem Tz  {op x}{t}:e4 P (.un op x) S aE t=zh op (aX S x) aE ⟨⟩:=propext Iff.rfl
theorem TA  {k x}{t}:e4 P (.zt k x) S aE t=Dd k (aX S x) aE ⟨⟩:=propext Iff.rfl
theorem TB  {n x}{t}:e4 P (.lo n x) S aE t=Dh n (aX S x) aE ⟨⟩:=propext Iff.rfl
theorem TC  {n x y}{t}:e4 P (.mH n x y) S aE t=A8 n (aX S x) (aX S y) aE ⟨⟩:=propext Iff.rfl
theorem TD  {m n x y}{t}:e4 P (.Cp m n x y) S aE t=Hf m n (aX S x) (aX S y) aE ⟨⟩:=propext Iff.rfl
theorem TE  {x y}{t}:e4 P (.mI x y) S aE t=Hj (aX S x) (aX S y) aE ⟨⟩:=propext Iff.rfl
theorem TF  {n x y}{t}:e4 P (.yz n x y) S aE t=Hi n (aX S x) (aX S y) aE ⟨⟩:=propext Iff.rfl
theorem TG  {n x}{t}:e4 P (.gN n x) S aE t=Hd n (aX S x) aE ⟨⟩:=propext Iff.rfl
theorem TH  {n m x}{t}:e4 P (.BM n m x) S aE t=Di n m (aX S x) aE ⟨⟩:=propext Iff.rfl
theorem TI  {z pl dd}{t}:e4 P (.gl z pl dd) S aE t=G1 S z pl dd aE ⟨⟩:=propext Iff.rfl
theorem TJ  {f a b}{t}:e4 P (.u6 f a b) S aE t=aE (.func (.func f) (a.map (aX S)).toArray (b.map (aX S)).toArray):=propext Iff.rfl
theorem TK  {n x aR U mx}{t}:e4 P (.gJ n x aR U mx) S aE t=rZ S n (aX S x) aR U mx aE ⟨⟩:=propext Iff.rfl
theorem TL  {x aR U}{t}:e4 P (.yS x aR U) S aE t=HA S (aX S x) aR U aE ⟨⟩:=propext Iff.rfl
theorem TM  {x n}{t}:e4 P (.ext x n) S aE t=vx (aX S x) n aE ⟨⟩:=propext Iff.rfl
theorem TN  {x}{t}:e4 P (.pg x) S aE t=Dl (aX S x) aE ⟨⟩:=propext Iff.rfl
theorem TO  {x}{t}:e4 P (.Au x) S aE t=Dk (aX S x) aE ⟨⟩:=propext Iff.rfl
theorem TR  {x}{t}:e4 P (.DT x) S aE t=Db (aX S x) aE ⟨⟩:=propext Iff.rfl
theorem TS  {v}{t}:e4 P (.FG v) S aE t=aE v:=propext Iff.rfl
theorem M2  {x y}{t}:e4 P (.u5 x y) S aE t=Dm (aX S x) (aX S y) aE ⟨⟩:=propext Iff.rfl
theorem TT  {x y}{t}:e4 P (.xa x y) S aE t=Dn (aX S x) (aX S y) aE ⟨⟩:=propext Iff.rfl
theorem TU  {n x}{t}:e4 P (.Az n x) S aE t=aE (.iface n (aX S x)):=propext Iff.rfl
theorem TV  {x}{t}:e4 P (.fo x) S aE t=y7 (aX S x) aE ⟨⟩:=propext Iff.rfl
theorem TW  {x}{t}:pz (.ld x) S w aE t=rW (aX S x) w aE ⟨⟩:=propext Iff.rfl
theorem TX  {n x}{t}:pz (.di n x) S w aE t=ui n (aX S x) w aE ⟨⟩:=propext Iff.rfl
theorem TY  {d z ok m k}{t}:pz (.nT d z ok m k) S w aE t=Ba d z ok (aX S m) (aX S k) w aE ⟨⟩:=propext Iff.rfl
theorem TZ  {x}{t}:pz (.Av x) S w aE t=Hn (aX S x) w aE ⟨⟩:=propext Iff.rfl
theorem T0  {n x}{t}:jk P (.box n x) S w K t=y5 n (aX S x).cells w K ⟨⟩:=propext Iff.rfl
theorem T1  {n z}{t}:jk P (.new n z) S w K t=y5 n z.cells w K ⟨⟩:=propext Iff.rfl
theorem T2  {x v}{t}:jk P (.st x v) S w K t=qZ (aX S x) (aX S v) w (K undef) ⟨⟩:=propext Iff.rfl
theorem T3  {n x v}{t}:jk P (.gY n x v) S w K t=zf n (aX S x) (aX S v) w (K undef) ⟨⟩:=propext Iff.rfl
theorem T4  {t}:jk P .tL S w K t=Hs w K ⟨⟩:=propext Iff.rfl
theorem T5  {e n b z l c}{t}:jk P (.u7 e n b z l c) S w K t=Bd e n b z (aX S l) (aX S c) w K ⟨⟩:=propext Iff.rfl
theorem T6  {e l n z dd}{t}:jk P (.gb e l n z dd) S w K t=C9 S e l n z dd w K ⟨⟩:=propext Iff.rfl
theorem T7  {ty e n b s x}{t}:jk P (.app ty e n b s x) S w K t=ml P ty e n b (aX S s) (aX S x) w K ⟨⟩:=propext Iff.rfl
theorem T8  {d m k v}{t}:jk P (.j4 d m k v) S w K t=y3 d (aX S m) (aX S k) (aX S v) w (K undef) ⟨⟩:=propext Iff.rfl
theorem T9  {x}{t}:jk P (.yO x) S w K t=Hy (aX S x) w K ⟨⟩:=propext Iff.rfl
theorem Ub  {x}{t}:jk P (.yG x) S w K t=Hu (aX S x) w K ⟨⟩:=propext Iff.rfl
theorem Uc  {op ty}{t}:jk P (.raw op ty) S w K t=sP P op ty S w K ⟨⟩:=propext Iff.rfl
theorem Ud  {f l}{t}:vu P (.fn f l) S w K t=A3 P f (l.map (aX S)) w K ⟨⟩:=propext Iff.rfl
theorem Ue  {x m l}{t}:vu P (.inv x m l) S w K t=xy P (aX S x) m (l.map (aX S)) w K ⟨⟩:=propext Iff.rfl
theorem Uf  {x l}{t}:vu P (.val x l) S w K t=vw P (aX S x) (l.map (aX S)) w K ⟨⟩:=propext Iff.rfl
theorem Ug  {f l}{t}:vv P (.fn f l) S w K t=A3 P f (l.map (aX S)) w K ⟨⟩:=propext Iff.rfl
theorem Uh  {x m l}{t}:vv P (.inv x m l) S w K t=xy P (aX S x) m (l.map (aX S)) w K ⟨⟩:=propext Iff.rfl
theorem Ui  {x l}{t}:vv P (.val x l) S w K t=yY P (aX S x) (l.map (aX S)) w K ⟨⟩:=propext Iff.rfl
theorem Uj  {ty dk dC}(k:IntKind)(a b:Int){t}:hb P .lss ty dk dC (.int k a) (.int k b) aE t=aE (.bool (decide (a<b))):=aeC k a b
theorem Uk  {ty dk dC}(k:IntKind)(a b:Int){t}:hb P .leq ty dk dC (.int k a) (.int k b) aE t=aE (.bool (decide (a<=b))):=aeB k a b
theorem Um  {ty dk dC}(k:IntKind)(a b:Int){t}:hb P .gtr ty dk dC (.int k a) (.int k b) aE t=aE (.bool (decide (b<a))):=aeA k a b
theorem Un  {ty dk dC}(k:IntKind)(a b:Int){t}:hb P .geq ty dk dC (.int k a) (.int k b) aE t=aE (.bool (decide (b<=a))):=aez k a b
theorem Uo  {ty dk dC}(k:IntKind)(a b:Int){t}:hb P .eql ty dk dC (.int k a) (.int k b) aE t=aE (.bool (decide (a=b))):=aey k a b
theorem Up  {ty dk dC}(k:IntKind)(a b:Int){t}:hb P .neq ty dk dC (.int k a) (.int k b) aE t=aE (.bool (!decide (a=b))):=(aeE k a b).trans Bs
theorem Uq  {ty dk dC}(k:IntKind)(a b:Int){t}:hb P .add ty dk dC (.int k a) (.int k b) aE t=pB k (a+b) aE ⟨⟩:=aex k a b
theorem Ur  {ty dk dC}(k:IntKind)(a b:Int){t}:hb P .sub ty dk dC (.int k a) (.int k b) aE t=pB k (a - b) aE ⟨⟩:=aeJ k a b
theorem Us  {ty dk dC}(k:IntKind)(a b:Int){t}:hb P .mul ty dk dC (.int k a) (.int k b) aE t=pB k (a*b) aE ⟨⟩:=aeD k a b
theorem Ut  {ty dk dC}(a b:ByteArray){t}:hb P .eql ty dk dC (.string a) (.string b) aE t=aE (.bool (decide (a=b))):=aeH a b
theorem Uu  {ty dk dC}(a b:ByteArray){t}:hb P .neq ty dk dC (.string a) (.string b) aE t=aE (.bool (!decide (a=b))):=(aeI a b).trans Bs
theorem Uv  (b:Bool){t}:zh .not (.bool b) aE t=aE (.bool (!b)):=propext Iff.rfl
theorem Ux  (k:IntKind)(n:Int){t}:zh .neg (.int k n) aE t=pB k (0 - n) aE ⟨⟩:=propext Iff.rfl
theorem Dv  (k q:IntKind)(n:Int){t}:Dd k (.int q n) aE t=pB k n aE ⟨⟩:=afO k q n aE
theorem Dw  (n:Nat)(a:Addr){t}:Dh n (.pointer (some a)) aE t=aE (.pointer (some (a.add n))):=ahj n a aE
theorem Uy  (v:B_)(vs:C_ B_){t}:vx (.tuple (v :: vs).toArray) 0 aE t=aE v:=ag3 v vs aE
theorem Uz  (v u:B_)(vs:C_ B_){t}:vx (.tuple (v :: u :: vs).toArray) 1 aE t=aE u:=ag4 v u vs aE
theorem UA  (v u x:B_)(vs:C_ B_){t}:vx (.tuple (v :: u :: x :: vs).toArray) 2 aE t=aE x:=ag5 v u x vs aE
theorem Dx  (s:ByteArray){t}:Dl (.string s) aE t=aE (.I s.size):=amA s aE
theorem Bg  (a:H_ Addr)(n c:Nat){t}:Dk (.slice a n c) aE t=aE (.I n):=amy a n c aE
theorem UB  (a:H_ Addr)(n c:Nat){t}:Db (.slice a n c) aE t=aE (.I c):=ae0 a n c aE
theorem UC  (k q:IntKind)(a b:Int){t}:Dm (.int k a) (.int q b) aE t=aE (.int k (max a b)):=amR k q a b aE
theorem UI  (k q:IntKind)(a b:Int){t}:Dn (.int k a) (.int q b) aE t=aE (.int k (min a b)):=amV k q a b aE
theorem UJ  (m n:Nat)(cs:Array B_){t}:Di m n (.agg cs) aE t=aE (.agg (cs.extract m (m+n))):=ahz m n cs aE
theorem UK  (a:Addr){t}:y7 (.pointer (some a)) aE t=aE (.pointer (some a)):=propext Iff.rfl
theorem UL  (f:E_)(a b:Array B_){t}:y7 (.func (.func f) a b) aE t=aE (.func (.func f) a b):=propext Iff.rfl
theorem UM  {t}:jC [] S w mr t=mr []:=propext Iff.rfl
theorem UN  {n r}{t}:jC (.tmp n :: r) S w mr t=jC r S w (fun vs=>mr (S n :: vs)) ⟨⟩:=propext Iff.rfl
theorem UO  {n r}{t}:jC (.cell n :: r) S w mr t=rW (S n) w (fun v=>jC r S w (fun vs=>mr (v :: vs)) ⟨⟩) ⟨⟩:=propext Iff.rfl
theorem UP  {m n r}{t}:jC (.jm m n :: r) S w mr t=ui m (S n) w (fun v=>jC r S w (fun vs=>mr (v :: vs)) ⟨⟩) ⟨⟩:=propext Iff.rfl
theorem UQ{S:Fr}{d:Nat}{v:B_}:put S (some d) v=b4 S d v:=eq_of_heq (heq_of_eq (jf S d v))
theorem UR{S:Fr}{v:B_}:put S none v=S:=eq_of_heq (heq_of_eq (abo S v))
theorem UT{S:Fr}{d t:Nat}{v:B_}:b4 S d v t=if t=d then v else S t:=eq_of_heq (heq_of_eq (bN S d t v))
theorem UU{S:Fr}{t:Nat}:aX S (.tmp t)=S t:=eq_of_heq (heq_of_eq (de S t))
theorem UW{S:Fr}{v:B_}:aX S (.const v)=v:=eq_of_heq (heq_of_eq (ot S v))
theorem UX{S:Fr}{g:Nat}:aX S (.global g) = .pointer (some ⟨g,0,none⟩):=eq_of_heq (heq_of_eq (agG S g))
theorem UY{S:Fr}{f:Nat}:aX S (.func f) = .func (.func f) #[] #[]:=eq_of_heq (heq_of_eq (v8 S f))
theorem UZ{k:Nat}:h5 [] k=fun _=>undef:=eq_of_heq (heq_of_eq (nG k))
theorem U0{v:B_}{vs:C_ B_}{k:Nat}:h5 (v :: vs) k=b4 (h5 vs (k+1)) k v:=eq_of_heq (heq_of_eq (kh v vs k))
theorem U1  : hl [] = .tuple #[]:=eq_of_heq (heq_of_eq (arl ..))
theorem U2  (v:B_):hl [v]=v:=eq_of_heq (heq_of_eq (arn ..))
theorem U3  (v u:B_):hl [v,u] = .tuple #[v,u]:=eq_of_heq (heq_of_eq (aro ..))
theorem U4  (v u x:B_):hl [v,u,x] = .tuple #[v,u,x]:=eq_of_heq (heq_of_eq (arp ..))
theorem U5  (a:H_ Addr)(n c:Nat):(Value.slice a n c).cells=#[.slice a n c]:=eq_of_heq (heq_of_eq (afl ..))
theorem U6  (k:IntKind)(n:Int):(Value.int k n).cells=#[.int k n]:=eq_of_heq (heq_of_eq (afg ..))
theorem U7  (b:Bool):(Value.bool b).cells=#[.bool b]:=eq_of_heq (heq_of_eq (afd ..))
theorem U8  (s:ByteArray):(Value.string s).cells=#[.string s]:=eq_of_heq (heq_of_eq (afm ..))
theorem U9  (a:H_ Addr):(Value.pointer a).cells=#[.pointer a]:=eq_of_heq (heq_of_eq (afk ..))
theorem Va  (a:H_ Nat):(Value.map a).cells=#[.map a]:=eq_of_heq (heq_of_eq (afh ..))
theorem Vb  (f:Fn)(a b:Array B_):(Value.func f a b).cells=#[.func f a b]:=eq_of_heq (heq_of_eq (aff ..))
theorem Vc  (cs:Array B_):(Value.agg cs).cells=cs:=eq_of_heq (heq_of_eq (afc ..))
theorem Vd{α β:Type}{f:α->β}{a:α}{l:C_ α}:(a :: l).map f=f a :: l.map f:=eq_of_heq (heq_of_eq (AG1))
theorem Ve{α β:Type}{f:α->β}:([]:C_ α).map f=[]:=eq_of_heq (heq_of_eq (AJ6))
theorem iU  : (!true)=false:=eq_of_heq (heq_of_eq (Bool.not_true))
theorem e5  : (!false)=true:=eq_of_heq (heq_of_eq (Bool.not_false))
theorem og{h:Decidable True}:decide True=true:=eq_of_heq (heq_of_eq (decide_true h))
theorem Bn{h:Decidable False}:decide False=false:=eq_of_heq (heq_of_eq (decide_false h))
theorem qj{α:Type}{a b:α}{h:Decidable True}:(if True then a else b)=a:=eq_of_heq (heq_of_eq (if_true a b))
theorem lF{α:Type}{a b:α}{h:Decidable False}:(if False then a else b)=b:=eq_of_heq (heq_of_eq (if_false a b))
end
theorem c7:((((((((∀{P:D_} {Q:eu->Fr->A_->Prop} {S:Fr} {w:A_}  {t},eg P .skip Q S w t=Q .normal S w) /\
(∀{P:D_} {Q:eu->Fr->A_->Prop} {S:Fr} {w:A_}  {b7} {t},eg P (.dv b7) Q S w t=kG P b7 S w (fun S w=>Q .normal S w) ⟨⟩)) /\
((∀{P:D_} {Q:eu->Fr->A_->Prop} {S:Fr} {w:A_}  {b7} {t},eg P (.q6 b7) Q S w t=mg P b7 S w (fun S => ∀w',Ext w w'->Q .normal S w') ⟨⟩) /\
((∀{P:D_} {Q:eu->Fr->A_->Prop} {S:Fr} {w:A_}  {x} {t},eg P (.dp x) Q S w t=(∀w1,Ext w w1->gj P w1 x S w1 (fun S w=>Q .normal S w) ⟨⟩)) /\
(∀{P:D_} {cV:Fr->A_->Prop} {S:Fr} {w:A_}  {w0} {t},gj P w0 .done S w cV t=cV S w)))) /\
(((∀{P:D_} {cV:Fr->A_->Prop} {S:Fr} {w:A_}  {w0} {t},gj P w0 .nil S w cV t=True) /\
((∀{P:D_} {cV:Fr->A_->Prop} {S:Fr} {w:A_}  {w0 s r} {t},gj P w0 (.take s r) S w cV t=AP P w0 s S (fun S=>gj P w0 r S w cV ⟨⟩) ⟨⟩) /\
(∀{P:D_} {cV:Fr->A_->Prop} {S:Fr} {w:A_}  {w0 s r} {t},gj P w0 (.alt s r .nil) S w cV t=sZ P w0 s S w (fun S w=>gj P w0 r S w cV ⟨⟩) ⟨⟩))) /\
((∀{P:D_} {cV:Fr->A_->Prop} {S:Fr} {w:A_}  {w0 s r iN hv lz} {t},gj P w0 (.alt s r (.alt iN hv lz)) S w cV t=(sZ P w0 s S w (fun S w=>gj P w0 r S w cV ⟨⟩) ⟨⟩/\gj P w0 (.alt iN hv lz) S w cV ⟨⟩)) /\
((∀{P:D_} {cV:Fr->A_->Prop} {S:Fr} {w:A_}  {w0 s r iN hv lz} {t},gj P w0 (.alt s r (.bh iN hv lz)) S w cV t=(sZ P w0 s S w (fun S w=>gj P w0 r S w cV ⟨⟩) ⟨⟩/\gj P w0 (.bh iN hv lz) S w cV ⟨⟩)) /\
(∀{P:D_} {cV:Fr->A_->Prop} {S:Fr} {w:A_}  {w0 s r} {t},gj P w0 (.bh s r .nil) S w cV t=tm P s S w (fun S w=>gj P w0 r S w cV ⟨⟩) ⟨⟩))))) /\
((((∀{P:D_} {cV:Fr->A_->Prop} {S:Fr} {w:A_}  {w0 s r iN hv lz} {t},gj P w0 (.bh s r (.alt iN hv lz)) S w cV t=(tm P s S w (fun S w=>gj P w0 r S w cV ⟨⟩) ⟨⟩/\gj P w0 (.alt iN hv lz) S w cV ⟨⟩)) /\
(∀{P:D_} {cV:Fr->A_->Prop} {S:Fr} {w:A_}  {w0 s r iN hv lz} {t},gj P w0 (.bh s r (.bh iN hv lz)) S w cV t=(tm P s S w (fun S w=>gj P w0 r S w cV ⟨⟩) ⟨⟩/\gj P w0 (.bh iN hv lz) S w cV ⟨⟩))) /\
((∀{P:D_} {cV:Fr->A_->Prop} {S:Fr} {w:A_}  {d i} {t},tm P ⟨d,none,i⟩ S w cV t=oa P i S w (fun v w'=>cV (put S d v) w') ⟨⟩) /\
((∀{P:D_} {cV:Fr->A_->Prop} {S:Fr} {w:A_}  {d j b i} {t},tm P ⟨d,some (j,b),i⟩ S w cV t=kt (S j) b (oa P i (b4 S j (.bool b)) w (fun v w'=>cV (put (b4 S j (.bool b)) d v) w') ⟨⟩) (cV (put (b4 S j (.bool (!b))) d undef) w) (cV (put S d undef) w) ⟨⟩) /\
(∀{P:D_} {h0:Fr->Prop} {S:Fr}  {w0 d i} {t},AP P w0 ⟨d,none,i⟩ S h0 t=py P i S w0 (fun v=>h0 (put S d v)) ⟨⟩)))) /\
(((∀{P:D_} {h0:Fr->Prop} {S:Fr}  {w0 d j b i} {t},AP P w0 ⟨d,some (j,b),i⟩ S h0 t=kt (S j) b (py P i (b4 S j (.bool b)) w0 (fun v=>h0 (put (b4 S j (.bool b)) d v)) ⟨⟩) (h0 (put (b4 S j (.bool (!b))) d undef)) (h0 (put S d undef)) ⟨⟩) /\
((∀{P:D_} {cV:Fr->A_->Prop} {S:Fr} {w:A_}  {w0 d i} {t},sZ P w0 ⟨d,none,i⟩ S w cV t=qQ P i S w (fun v w'=>Ext w0 w'/\cV (put S d v) w') ⟨⟩) /\
(∀{P:D_} {cV:Fr->A_->Prop} {S:Fr} {w:A_}  {w0 d j b i} {t},sZ P w0 ⟨d,some (j,b),i⟩ S w cV t=kt (S j) b (qQ P i (b4 S j (.bool b)) w (fun v w'=>Ext w0 w'/\cV (put (b4 S j (.bool b)) d v) w') ⟨⟩) (cV (put (b4 S j (.bool (!b))) d undef) w) (cV (put S d undef) w) ⟨⟩))) /\
((∀{P:D_} {Q:eu->Fr->A_->Prop} {S:Fr} {w:A_}  {c x y} {t},eg P (.cond c x y) Q S w t=k4 (aX S c) (eg P x Q S w ⟨⟩) (eg P y Q S w ⟨⟩) ⟨⟩) /\
((∀{P:D_} {Q:eu->Fr->A_->Prop} {S:Fr} {w:A_}  {id b} {t},eg P (.cx id b) Q S w t=eg P b (q3 id Q ⟨⟩) S w ⟨⟩) /\
(∀{P:D_} {Q:eu->Fr->A_->Prop} {S:Fr} {w:A_}  {id} {t},eg P (.exit id) Q S w t=Q (.exit id) S w)))))) /\
(((((∀{P:D_} {Q:eu->Fr->A_->Prop} {S:Fr} {w:A_}  {t},eg P .ret Q S w t=Q .ret S w) /\
(∀{P:D_} {Q:eu->Fr->A_->Prop} {S:Fr} {w:A_}  {b7 d f l} {t},eg P (.fG b7 d f l) Q S w t=kG P b7 S w (fun S w=>HB P f (l.map (aX S)) w (fun v w'=>Q .normal (put S d v) w') (fun c w'=>Q (.gx c) S w') ⟨⟩) ⟨⟩)) /\
((∀{P:D_} {Q:eu->Fr->A_->Prop} {S:Fr} {w:A_}  {b7 x} {t},eg P (.sB b7 x) Q S w t=kG P b7 S w (fun S w=>Ds (aX S x) (fun c=>Q (.gx c) S w) ⟨⟩) ⟨⟩) /\
((∀{Bq:C_ PanicEntry->Prop}  {i:F_} {v:B_} {t},Ds (.iface i v) Bq t=Bq [{ v:=.iface i v,recovered:=false }]) /\
(∀{Q:eu->Fr->A_->Prop} {N:Fr->A_->Prop} {S:Fr} {w:A_}  {c} {t},ic N Q t (.gx c) S w=Q (.gx c) S w)))) /\
(((∀{Q:eu->Fr->A_->Prop} {S:Fr} {w:A_} {i} {c} {t},q3 i Q t (.gx c) S w=Q (.gx c) S w) /\
((∀{Z:C_ PanicEntry->A_->Prop} {R:B_->A_->Prop} {S:Fr} {w:A_} {r} {t},v7 r R Z t .normal S w=jC r S w (fun vs=>R (hl vs) w) ⟨⟩) /\
(∀{Z:C_ PanicEntry->A_->Prop} {R:B_->A_->Prop} {S:Fr} {w:A_} {r} {t},v7 r R Z t .ret S w=jC r S w (fun vs=>R (hl vs) w) ⟨⟩))) /\
((∀{Z:C_ PanicEntry->A_->Prop} {R:B_->A_->Prop} {S:Fr} {w:A_} {r} {c} {t},v7 r R Z t (.gx c) S w=Z c w) /\
((∀{P:D_} {Q:eu->Fr->A_->Prop} {S:Fr} {w:A_}  {b} {t},eg P (.loop b) Q S w t=y2 P b Q S w ⟨⟩) /\
(∀{Q:eu->Fr->A_->Prop} {N:Fr->A_->Prop} {S:Fr} {w:A_}  {t},ic N Q t .normal S w=N S w))))) /\
((((∀{Q:eu->Fr->A_->Prop} {N:Fr->A_->Prop} {S:Fr} {w:A_}  {i} {t},ic N Q t (.exit i) S w=Q (.exit i) S w) /\
(∀{Q:eu->Fr->A_->Prop} {N:Fr->A_->Prop} {S:Fr} {w:A_}  {t},ic N Q t .ret S w=Q .ret S w)) /\
((∀{Q:eu->Fr->A_->Prop} {S:Fr} {w:A_} {i} {t},q3 i Q t .normal S w=Q .normal S w) /\
((∀{Q:eu->Fr->A_->Prop} {S:Fr} {w:A_} {i} {t},q3 i Q t .ret S w=Q .ret S w) /\
(∀{Q:eu->Fr->A_->Prop} {S:Fr} {w:A_} {i} {j} {t},q3 i Q t (.exit j) S w=if j=i then Q .normal S w else Q (.exit j) S w)))) /\
(((∀{R:B_->A_->Prop} {S:Fr} {w:A_} {r} {t},ra r R t .normal S w=jC r S w (fun vs=>R (hl vs) w) ⟨⟩) /\
((∀{R:B_->A_->Prop} {S:Fr} {w:A_} {r} {t},ra r R t .ret S w=jC r S w (fun vs=>R (hl vs) w) ⟨⟩) /\
(∀{P:D_} {cV:Fr->A_->Prop} {S:Fr} {w:A_}  {t},kG P [] S w cV t=cV S w))) /\
((∀{P:D_} {cV:Fr->A_->Prop} {S:Fr} {w:A_}  {d i r} {t},kG P (⟨d,none,i⟩ :: r) S w cV t=oa P i S w (fun v w'=>kG P r (put S d v) w' cV ⟨⟩) ⟨⟩) /\
((∀{P:D_} {cV:Fr->A_->Prop} {S:Fr} {w:A_}  {d j b i r} {t},kG P (⟨d,some (j,b),i⟩ :: r) S w cV t=kt (S j) b (oa P i (b4 S j (.bool b)) w (fun v w'=>kG P r (put (b4 S j (.bool b)) d v) w' cV ⟨⟩) ⟨⟩) (kG P r (put (b4 S j (.bool (!b))) d undef) w cV ⟨⟩) (kG P r (put S d undef) w cV ⟨⟩) ⟨⟩) /\
(∀{P:D_} {h0:Fr->Prop} {S:Fr} {w:A_}  {t},mg P [] S w h0 t=h0 S))))))) /\
((((((∀{P:D_} {h0:Fr->Prop} {S:Fr} {w:A_}  {d i r} {t},mg P (⟨d,none,i⟩ :: r) S w h0 t=py P i S w (fun v=>mg P r (put S d v) w h0 ⟨⟩) ⟨⟩) /\
(∀{P:D_} {h0:Fr->Prop} {S:Fr} {w:A_}  {d j b i r} {t},mg P (⟨d,some (j,b),i⟩ :: r) S w h0 t=kt (S j) b (py P i (b4 S j (.bool b)) w (fun v=>mg P r (put (b4 S j (.bool b)) d v) w h0 ⟨⟩) ⟨⟩) (mg P r (put (b4 S j (.bool (!b))) d undef) w h0 ⟨⟩) (mg P r (put S d undef) w h0 ⟨⟩) ⟨⟩)) /\
((∀{P:D_} {K:B_->A_->Prop} {S:Fr} {w:A_}  {i} {t},qQ P (.p i) S w K t=e4 P i S (fun v=>K v w) ⟨⟩) /\
((∀{P:D_} {K:B_->A_->Prop} {S:Fr} {w:A_}  {i} {t},qQ P (.r i) S w K t=pz i S w (fun v=>K v w) ⟨⟩) /\
(∀{P:D_} {K:B_->A_->Prop} {S:Fr} {w:A_}  {i} {t},qQ P (.e i) S w K t=jk P i S w K ⟨⟩)))) /\
(((∀{P:D_} {K:B_->A_->Prop} {S:Fr} {w:A_}  {i} {t},qQ P (.c i) S w K t=vu P i S w K ⟨⟩) /\
((∀{P:D_} {K:B_->A_->Prop} {S:Fr} {w:A_}  {i} {t},oa P (.p i) S w K t=e4 P i S (fun v=>K v w) ⟨⟩) /\
(∀{P:D_} {K:B_->A_->Prop} {S:Fr} {w:A_}  {i} {t},oa P (.r i) S w K t=pz i S w (fun v=>K v w) ⟨⟩))) /\
((∀{P:D_} {K:B_->A_->Prop} {S:Fr} {w:A_}  {i} {t},oa P (.e i) S w K t=jk P i S w K ⟨⟩) /\
((∀{P:D_} {K:B_->A_->Prop} {S:Fr} {w:A_}  {i} {t},oa P (.c i) S w K t=vv P i S w K ⟨⟩) /\
(∀{P:D_} {aE:B_->Prop} {S:Fr} {w:A_}  {i} {t},py P (.p i) S w aE t=e4 P i S aE ⟨⟩))))) /\
((((∀{P:D_} {aE:B_->Prop} {S:Fr} {w:A_}  {i} {t},py P (.r i) S w aE t=pz i S w aE ⟨⟩) /\
(∀{P:D_} {aE:B_->Prop} {S:Fr} {w:A_}  {i} {t},py P (.c i) S w aE t=vD P i S w aE ⟨⟩)) /\
((∀{P:D_} {aE:B_->Prop} {S:Fr} {w:A_}  {f l} {t},vD P (.fn f l) S w aE t=Hx P f (l.map (aX S)) w aE ⟨⟩) /\
((∀{P:D_} {aE:B_->Prop} {S:Fr} {w:A_}  {x m l} {t},vD P (.inv x m l) S w aE t=Mz P (aX S x) m (l.map (aX S)) w aE ⟨⟩) /\
(∀{P:D_} {aE:B_->Prop} {S:Fr} {w:A_}  {x l} {t},vD P (.val x l) S w aE t=Dt P (aX S x) (l.map (aX S)) w aE ⟨⟩)))) /\
(((∀{A:Prop} {B:Prop} {C:Prop}  {t},kt (.bool true) true A B C t=A) /\
((∀{A:Prop} {B:Prop} {C:Prop}  {t},kt (.bool true) false A B C t=B) /\
(∀{A:Prop} {B:Prop} {C:Prop}  {t},kt (.bool false) true A B C t=B))) /\
((∀{A:Prop} {B:Prop} {C:Prop}  {t},kt (.bool false) false A B C t=A) /\
((∀{A:Prop} {B:Prop} {C:Prop}  (u:Bool) {t},kt undef u A B C t=C) /\
(∀{A:Prop} {B:Prop} {C:Prop}  (u:Bool) {t},kt (.bool u) true A B C t=k4 (.bool u) A B ⟨⟩)))))) /\
(((((∀{A:Prop} {B:Prop} {C:Prop}  (u:Bool) {t},kt (.bool u) false A B C t=k4 (.bool u) B A ⟨⟩) /\
(∀{A:Prop} {B:Prop}  {t},k4 (.bool true) A B t=A)) /\
((∀{A:Prop} {B:Prop}  {t},k4 (.bool false) A B t=B) /\
((∀{A:Prop} {B:Prop}  (u:Bool) {t},k4 (.bool (!u)) A B t=k4 (.bool u) B A ⟨⟩) /\
(∀{P:D_} {aE:B_->Prop} {S:Fr}  {x} {t},e4 P (.np x) S aE t=aE (aX S x))))) /\
(((∀{P:D_} {aE:B_->Prop} {S:Fr}  {c x y} {t},e4 P (.pick c x y) S aE t=k4 (aX S c) (aE (aX S x)) (aE (aX S y)) ⟨⟩) /\
((∀{P:D_} {aE:B_->Prop} {S:Fr}  {op ty x y} {t},e4 P (.bin op ty x y) S aE t=hb P op ty x y (aX S x) (aX S y) aE ⟨⟩) /\
(∀{P:D_} {aE:B_->Prop} {S:Fr}  {op x} {t},e4 P (.un op x) S aE t=zh op (aX S x) aE ⟨⟩))) /\
((∀{P:D_} {aE:B_->Prop} {S:Fr}  {k x} {t},e4 P (.zt k x) S aE t=Dd k (aX S x) aE ⟨⟩) /\
((∀{P:D_} {aE:B_->Prop} {S:Fr}  {n x} {t},e4 P (.lo n x) S aE t=Dh n (aX S x) aE ⟨⟩) /\
(∀{P:D_} {aE:B_->Prop} {S:Fr}  {n x y} {t},e4 P (.mH n x y) S aE t=A8 n (aX S x) (aX S y) aE ⟨⟩))))) /\
((((∀{P:D_} {aE:B_->Prop} {S:Fr}  {m n x y} {t},e4 P (.Cp m n x y) S aE t=Hf m n (aX S x) (aX S y) aE ⟨⟩) /\
(∀{P:D_} {aE:B_->Prop} {S:Fr}  {x y} {t},e4 P (.mI x y) S aE t=Hj (aX S x) (aX S y) aE ⟨⟩)) /\
((∀{P:D_} {aE:B_->Prop} {S:Fr}  {n x y} {t},e4 P (.yz n x y) S aE t=Hi n (aX S x) (aX S y) aE ⟨⟩) /\
((∀{P:D_} {aE:B_->Prop} {S:Fr}  {n x} {t},e4 P (.gN n x) S aE t=Hd n (aX S x) aE ⟨⟩) /\
(∀{P:D_} {aE:B_->Prop} {S:Fr}  {n m x} {t},e4 P (.BM n m x) S aE t=Di n m (aX S x) aE ⟨⟩)))) /\
(((∀{P:D_} {aE:B_->Prop} {S:Fr}  {z pl dd} {t},e4 P (.gl z pl dd) S aE t=G1 S z pl dd aE ⟨⟩) /\
((∀{P:D_} {aE:B_->Prop} {S:Fr}  {f a b} {t},e4 P (.u6 f a b) S aE t=aE (.func (.func f) (a.map (aX S)).toArray (b.map (aX S)).toArray)) /\
(∀{P:D_} {aE:B_->Prop} {S:Fr}  {n x aR U mx} {t},e4 P (.gJ n x aR U mx) S aE t=rZ S n (aX S x) aR U mx aE ⟨⟩))) /\
((∀{P:D_} {aE:B_->Prop} {S:Fr}  {x aR U} {t},e4 P (.yS x aR U) S aE t=HA S (aX S x) aR U aE ⟨⟩) /\
((∀{P:D_} {aE:B_->Prop} {S:Fr}  {x n} {t},e4 P (.ext x n) S aE t=vx (aX S x) n aE ⟨⟩) /\
(∀{P:D_} {aE:B_->Prop} {S:Fr}  {x} {t},e4 P (.pg x) S aE t=Dl (aX S x) aE ⟨⟩)))))))) /\
(((((((∀{P:D_} {aE:B_->Prop} {S:Fr}  {x} {t},e4 P (.Au x) S aE t=Dk (aX S x) aE ⟨⟩) /\
(∀{P:D_} {aE:B_->Prop} {S:Fr}  {x} {t},e4 P (.DT x) S aE t=Db (aX S x) aE ⟨⟩)) /\
((∀{P:D_} {aE:B_->Prop} {S:Fr}  {v} {t},e4 P (.FG v) S aE t=aE v) /\
((∀{P:D_} {aE:B_->Prop} {S:Fr}  {x y} {t},e4 P (.u5 x y) S aE t=Dm (aX S x) (aX S y) aE ⟨⟩) /\
(∀{P:D_} {aE:B_->Prop} {S:Fr}  {x y} {t},e4 P (.xa x y) S aE t=Dn (aX S x) (aX S y) aE ⟨⟩)))) /\
(((∀{P:D_} {aE:B_->Prop} {S:Fr}  {n x} {t},e4 P (.Az n x) S aE t=aE (.iface n (aX S x))) /\
((∀{P:D_} {aE:B_->Prop} {S:Fr}  {x} {t},e4 P (.fo x) S aE t=y7 (aX S x) aE ⟨⟩) /\
(∀{aE:B_->Prop} {S:Fr} {w:A_}  {x} {t},pz (.ld x) S w aE t=rW (aX S x) w aE ⟨⟩))) /\
((∀{aE:B_->Prop} {S:Fr} {w:A_}  {n x} {t},pz (.di n x) S w aE t=ui n (aX S x) w aE ⟨⟩) /\
((∀{aE:B_->Prop} {S:Fr} {w:A_}  {d z ok m k} {t},pz (.nT d z ok m k) S w aE t=Ba d z ok (aX S m) (aX S k) w aE ⟨⟩) /\
(∀{aE:B_->Prop} {S:Fr} {w:A_}  {x} {t},pz (.Av x) S w aE t=Hn (aX S x) w aE ⟨⟩))))) /\
((((∀{P:D_} {K:B_->A_->Prop} {S:Fr} {w:A_}  {n x} {t},jk P (.box n x) S w K t=y5 n (aX S x).cells w K ⟨⟩) /\
(∀{P:D_} {K:B_->A_->Prop} {S:Fr} {w:A_}  {n z} {t},jk P (.new n z) S w K t=y5 n z.cells w K ⟨⟩)) /\
((∀{P:D_} {K:B_->A_->Prop} {S:Fr} {w:A_}  {x v} {t},jk P (.st x v) S w K t=qZ (aX S x) (aX S v) w (K undef) ⟨⟩) /\
((∀{P:D_} {K:B_->A_->Prop} {S:Fr} {w:A_}  {n x v} {t},jk P (.gY n x v) S w K t=zf n (aX S x) (aX S v) w (K undef) ⟨⟩) /\
(∀{P:D_} {K:B_->A_->Prop} {S:Fr} {w:A_}  {t},jk P .tL S w K t=Hs w K ⟨⟩)))) /\
(((∀{P:D_} {K:B_->A_->Prop} {S:Fr} {w:A_}  {e n b z l c} {t},jk P (.u7 e n b z l c) S w K t=Bd e n b z (aX S l) (aX S c) w K ⟨⟩) /\
((∀{P:D_} {K:B_->A_->Prop} {S:Fr} {w:A_}  {e l n z dd} {t},jk P (.gb e l n z dd) S w K t=C9 S e l n z dd w K ⟨⟩) /\
(∀{P:D_} {K:B_->A_->Prop} {S:Fr} {w:A_}  {ty e n b s x} {t},jk P (.app ty e n b s x) S w K t=ml P ty e n b (aX S s) (aX S x) w K ⟨⟩))) /\
((∀{P:D_} {K:B_->A_->Prop} {S:Fr} {w:A_}  {d m k v} {t},jk P (.j4 d m k v) S w K t=y3 d (aX S m) (aX S k) (aX S v) w (K undef) ⟨⟩) /\
((∀{P:D_} {K:B_->A_->Prop} {S:Fr} {w:A_}  {x} {t},jk P (.yO x) S w K t=Hy (aX S x) w K ⟨⟩) /\
(∀{P:D_} {K:B_->A_->Prop} {S:Fr} {w:A_}  {x} {t},jk P (.yG x) S w K t=Hu (aX S x) w K ⟨⟩)))))) /\
(((((∀{P:D_} {K:B_->A_->Prop} {S:Fr} {w:A_}  {op ty} {t},jk P (.raw op ty) S w K t=sP P op ty S w K ⟨⟩) /\
(∀{P:D_} {K:B_->A_->Prop} {S:Fr} {w:A_}  {f l} {t},vu P (.fn f l) S w K t=A3 P f (l.map (aX S)) w K ⟨⟩)) /\
((∀{P:D_} {K:B_->A_->Prop} {S:Fr} {w:A_}  {x m l} {t},vu P (.inv x m l) S w K t=xy P (aX S x) m (l.map (aX S)) w K ⟨⟩) /\
((∀{P:D_} {K:B_->A_->Prop} {S:Fr} {w:A_}  {x l} {t},vu P (.val x l) S w K t=vw P (aX S x) (l.map (aX S)) w K ⟨⟩) /\
(∀{P:D_} {K:B_->A_->Prop} {S:Fr} {w:A_}  {f l} {t},vv P (.fn f l) S w K t=A3 P f (l.map (aX S)) w K ⟨⟩)))) /\
(((∀{P:D_} {K:B_->A_->Prop} {S:Fr} {w:A_}  {x m l} {t},vv P (.inv x m l) S w K t=xy P (aX S x) m (l.map (aX S)) w K ⟨⟩) /\
((∀{P:D_} {K:B_->A_->Prop} {S:Fr} {w:A_}  {x l} {t},vv P (.val x l) S w K t=yY P (aX S x) (l.map (aX S)) w K ⟨⟩) /\
(∀{P:D_} {aE:B_->Prop}  {ty dk dC} (k:IntKind) (a b:Int) {t},hb P .lss ty dk dC (.int k a) (.int k b) aE t=aE (.bool (decide (a<b)))))) /\
((∀{P:D_} {aE:B_->Prop}  {ty dk dC} (k:IntKind) (a b:Int) {t},hb P .leq ty dk dC (.int k a) (.int k b) aE t=aE (.bool (decide (a<=b)))) /\
((∀{P:D_} {aE:B_->Prop}  {ty dk dC} (k:IntKind) (a b:Int) {t},hb P .gtr ty dk dC (.int k a) (.int k b) aE t=aE (.bool (decide (b<a)))) /\
(∀{P:D_} {aE:B_->Prop}  {ty dk dC} (k:IntKind) (a b:Int) {t},hb P .geq ty dk dC (.int k a) (.int k b) aE t=aE (.bool (decide (b<=a)))))))) /\
((((∀{P:D_} {aE:B_->Prop}  {ty dk dC} (k:IntKind) (a b:Int) {t},hb P .eql ty dk dC (.int k a) (.int k b) aE t=aE (.bool (decide (a=b)))) /\
(∀{P:D_} {aE:B_->Prop}  {ty dk dC} (k:IntKind) (a b:Int) {t},hb P .neq ty dk dC (.int k a) (.int k b) aE t=aE (.bool (!decide (a=b))))) /\
((∀{P:D_} {aE:B_->Prop}  {ty dk dC} (k:IntKind) (a b:Int) {t},hb P .add ty dk dC (.int k a) (.int k b) aE t=pB k (a+b) aE ⟨⟩) /\
((∀{P:D_} {aE:B_->Prop}  {ty dk dC} (k:IntKind) (a b:Int) {t},hb P .sub ty dk dC (.int k a) (.int k b) aE t=pB k (a - b) aE ⟨⟩) /\
(∀{P:D_} {aE:B_->Prop}  {ty dk dC} (k:IntKind) (a b:Int) {t},hb P .mul ty dk dC (.int k a) (.int k b) aE t=pB k (a*b) aE ⟨⟩)))) /\
(((∀{P:D_} {aE:B_->Prop}  {ty dk dC} (a b:ByteArray) {t},hb P .eql ty dk dC (.string a) (.string b) aE t=aE (.bool (decide (a=b)))) /\
((∀{P:D_} {aE:B_->Prop}  {ty dk dC} (a b:ByteArray) {t},hb P .neq ty dk dC (.string a) (.string b) aE t=aE (.bool (!decide (a=b)))) /\
(∀{aE:B_->Prop}  (b:Bool) {t},zh .not (.bool b) aE t=aE (.bool (!b))))) /\
((∀{aE:B_->Prop}  (k:IntKind) (n:Int) {t},zh .neg (.int k n) aE t=pB k (0 - n) aE ⟨⟩) /\
((∀{aE:B_->Prop}  (k q:IntKind) (n:Int) {t},Dd k (.int q n) aE t=pB k n aE ⟨⟩) /\
(∀{aE:B_->Prop}  (n:Nat) (a:Addr) {t},Dh n (.pointer (some a)) aE t=aE (.pointer (some (a.add n)))))))))) /\
((((((∀{aE:B_->Prop}  (v:B_) (vs:C_ B_) {t},vx (.tuple (v :: vs).toArray) 0 aE t=aE v) /\
(∀{aE:B_->Prop}  (v u:B_) (vs:C_ B_) {t},vx (.tuple (v :: u :: vs).toArray) 1 aE t=aE u)) /\
((∀{aE:B_->Prop}  (v u x:B_) (vs:C_ B_) {t},vx (.tuple (v :: u :: x :: vs).toArray) 2 aE t=aE x) /\
((∀{aE:B_->Prop}  (s:ByteArray) {t},Dl (.string s) aE t=aE (.I s.size)) /\
(∀{aE:B_->Prop}  (a:H_ Addr) (n c:Nat) {t},Dk (.slice a n c) aE t=aE (.I n))))) /\
(((∀{aE:B_->Prop}  (a:H_ Addr) (n c:Nat) {t},Db (.slice a n c) aE t=aE (.I c)) /\
((∀{aE:B_->Prop}  (k q:IntKind) (a b:Int) {t},Dm (.int k a) (.int q b) aE t=aE (.int k (max a b))) /\
(∀{aE:B_->Prop}  (k q:IntKind) (a b:Int) {t},Dn (.int k a) (.int q b) aE t=aE (.int k (min a b))))) /\
((∀{aE:B_->Prop}  (m n:Nat) (cs:Array B_) {t},Di m n (.agg cs) aE t=aE (.agg (cs.extract m (m+n)))) /\
((∀{aE:B_->Prop}  (a:Addr) {t},y7 (.pointer (some a)) aE t=aE (.pointer (some a))) /\
(∀{aE:B_->Prop}  (f:E_) (a b:Array B_) {t},y7 (.func (.func f) a b) aE t=aE (.func (.func f) a b)))))) /\
((((∀{mr:C_ B_->Prop} {S:Fr} {w:A_}  {t},jC [] S w mr t=mr []) /\
(∀{mr:C_ B_->Prop} {S:Fr} {w:A_}  {n r} {t},jC (.tmp n :: r) S w mr t=jC r S w (fun vs=>mr (S n :: vs)) ⟨⟩)) /\
((∀{mr:C_ B_->Prop} {S:Fr} {w:A_}  {n r} {t},jC (.cell n :: r) S w mr t=rW (S n) w (fun v=>jC r S w (fun vs=>mr (v :: vs)) ⟨⟩) ⟨⟩) /\
((∀{mr:C_ B_->Prop} {S:Fr} {w:A_}  {m n r} {t},jC (.jm m n :: r) S w mr t=ui m (S n) w (fun v=>jC r S w (fun vs=>mr (v :: vs)) ⟨⟩) ⟨⟩) /\
(∀{S:Fr} {d:Nat} {v:B_},put S (some d) v=b4 S d v)))) /\
(((∀{S:Fr} {v:B_},put S none v=S) /\
((∀{S:Fr} {d t:Nat} {v:B_},b4 S d v t=if t=d then v else S t) /\
(∀{S:Fr} {t:Nat},aX S (.tmp t)=S t))) /\
((∀{S:Fr} {v:B_},aX S (.const v)=v) /\
((∀{S:Fr} {g:Nat},aX S (.global g) = .pointer (some ⟨g,0,none⟩)) /\
(∀{S:Fr} {f:Nat},aX S (.func f) = .func (.func f) #[] #[])))))) /\
(((((∀{k:Nat},h5 [] k=fun _=>undef) /\
(∀{v:B_} {vs:C_ B_} {k:Nat},h5 (v :: vs) k=b4 (h5 vs (k+1)) k v)) /\
((hl [] = .tuple #[]) /\
((∀(v:B_),hl [v]=v) /\
(∀(v u:B_),hl [v,u] = .tuple #[v,u])))) /\
(((∀(v u x:B_),hl [v,u,x] = .tuple #[v,u,x]) /\
((∀(a:H_ Addr) (n c:Nat),(Value.slice a n c).cells=#[.slice a n c]) /\
(∀(k:IntKind) (n:Int),(Value.int k n).cells=#[.int k n]))) /\
((∀(b:Bool),(Value.bool b).cells=#[.bool b]) /\
((∀(s:ByteArray),(Value.string s).cells=#[.string s]) /\
(∀(a:H_ Addr),(Value.pointer a).cells=#[.pointer a]))))) /\
((((∀(a:H_ Nat),(Value.map a).cells=#[.map a]) /\
(∀(f:Fn) (a b:Array B_),(Value.func f a b).cells=#[.func f a b])) /\
((∀(cs:Array B_),(Value.agg cs).cells=cs) /\
((∀{α β:Type} {f:α->β} {a:α} {l:C_ α},(a :: l).map f=f a :: l.map f) /\
(∀{α β:Type} {f:α->β},([]:C_ α).map f=[])))) /\
((((!true)=false) /\
(((!false)=true) /\
(∀{h:Decidable True},decide True=true))) /\
((∀{h:Decidable False},decide False=false) /\
((∀{α:Type} {a b:α} {h:Decidable True},(if True then a else b)=a) /\
(∀{α:Type} {a b:α} {h:Decidable False},(if False then a else b)=b))))))))) :=
 ⟨⟨⟨⟨⟨⟨⟨(by intros;apply Sr),(by intros;apply Ss)⟩,⟨(by intros;apply St),⟨(by intros;apply Su),(by intros;apply Sv)⟩⟩⟩,⟨⟨(by intros;apply Sw),⟨(by intros;apply Sx),(by intros;apply Sy)⟩⟩,⟨(by intros;apply Sz),⟨(by intros;apply SA),(by intros;apply SC)⟩⟩⟩⟩,⟨⟨⟨(by intros;apply SD),(by intros;apply SE)⟩,⟨(by intros;apply SF),⟨(by intros;apply SG),(by intros;apply SH)⟩⟩⟩,⟨⟨(by intros;apply SI),⟨(by intros;apply SJ),(by intros;apply SK)⟩⟩,⟨(by intros;apply SL),⟨(by intros;apply SM),(by intros;apply SN)⟩⟩⟩⟩⟩,⟨⟨⟨⟨(by intros;apply SO),(by intros;apply SP)⟩,⟨(by intros;apply SQ),⟨(by intros;apply SR),(by intros;apply SS)⟩⟩⟩,⟨⟨(by intros;apply SU),⟨(by intros;apply SV),(by intros;apply uf)⟩⟩,⟨(by intros;apply SZ),⟨(by intros;apply S0),(by intros;apply S1)⟩⟩⟩⟩,⟨⟨⟨(by intros;apply S2),(by intros;apply S3)⟩,⟨(by intros;apply S4),⟨(by intros;apply S5),(by intros;apply S6)⟩⟩⟩,⟨⟨(by intros;apply S7),⟨(by intros;apply yZ),(by intros;apply jQ)⟩⟩,⟨(by intros;apply da),⟨(by intros;apply fJ),(by intros;apply eo)⟩⟩⟩⟩⟩⟩,⟨⟨⟨⟨⟨(by intros;apply iP),(by intros;apply iE)⟩,⟨(by intros;apply gR),⟨(by intros;apply iF),(by intros;apply gk)⟩⟩⟩,⟨⟨(by intros;apply Tc),⟨(by intros;apply Td),(by intros;apply Te)⟩⟩,⟨(by intros;apply Tf),⟨(by intros;apply Tg),(by intros;apply Th)⟩⟩⟩⟩,⟨⟨⟨(by intros;apply Ti),(by intros;apply Tj)⟩,⟨(by intros;apply Tk),⟨(by intros;apply Tl),(by intros;apply Tm)⟩⟩⟩,⟨⟨(by intros;apply H1),⟨(by intros;apply Tn),(by intros;apply To)⟩⟩,⟨(by intros;apply Tp),⟨(by intros;apply Tq),(by intros;apply Tr)⟩⟩⟩⟩⟩,⟨⟨⟨⟨(by intros;apply Ts),(by intros;apply Tt)⟩,⟨(by intros;apply Tu),⟨(by intros;apply Tv),(by intros;apply Tw)⟩⟩⟩,⟨⟨(by intros;apply Tx),⟨(by intros;apply Ty),(by intros;apply Tz)⟩⟩,⟨(by intros;apply TA),⟨(by intros;apply TB),(by intros;apply TC)⟩⟩⟩⟩,⟨⟨⟨(by intros;apply TD),(by intros;apply TE)⟩,⟨(by intros;apply TF),⟨(by intros;apply TG),(by intros;apply TH)⟩⟩⟩,⟨⟨(by intros;apply TI),⟨(by intros;apply TJ),(by intros;apply TK)⟩⟩,⟨(by intros;apply TL),⟨(by intros;apply TM),(by intros;apply TN)⟩⟩⟩⟩⟩⟩⟩,⟨⟨⟨⟨⟨⟨(by intros;apply TO),(by intros;apply TR)⟩,⟨(by intros;apply TS),⟨(by intros;apply M2),(by intros;apply TT)⟩⟩⟩,⟨⟨(by intros;apply TU),⟨(by intros;apply TV),(by intros;apply TW)⟩⟩,⟨(by intros;apply TX),⟨(by intros;apply TY),(by intros;apply TZ)⟩⟩⟩⟩,⟨⟨⟨(by intros;apply T0),(by intros;apply T1)⟩,⟨(by intros;apply T2),⟨(by intros;apply T3),(by intros;apply T4)⟩⟩⟩,⟨⟨(by intros;apply T5),⟨(by intros;apply T6),(by intros;apply T7)⟩⟩,⟨(by intros;apply T8),⟨(by intros;apply T9),(by intros;apply Ub)⟩⟩⟩⟩⟩,⟨⟨⟨⟨(by intros;apply Uc),(by intros;apply Ud)⟩,⟨(by intros;apply Ue),⟨(by intros;apply Uf),(by intros;apply Ug)⟩⟩⟩,⟨⟨(by intros;apply Uh),⟨(by intros;apply Ui),(by intros;apply Uj)⟩⟩,⟨(by intros;apply Uk),⟨(by intros;apply Um),(by intros;apply Un)⟩⟩⟩⟩,⟨⟨⟨(by intros;apply Uo),(by intros;apply Up)⟩,⟨(by intros;apply Uq),⟨(by intros;apply Ur),(by intros;apply Us)⟩⟩⟩,⟨⟨(by intros;apply Ut),⟨(by intros;apply Uu),(by intros;apply Uv)⟩⟩,⟨(by intros;apply Ux),⟨(by intros;apply Dv),(by intros;apply Dw)⟩⟩⟩⟩⟩⟩,⟨⟨⟨⟨⟨(by intros;apply Uy),(by intros;apply Uz)⟩,⟨(by intros;apply UA),⟨(by intros;apply Dx),(by intros;apply Bg)⟩⟩⟩,⟨⟨(by intros;apply UB),⟨(by intros;apply UC),(by intros;apply UI)⟩⟩,⟨(by intros;apply UJ),⟨(by intros;apply UK),(by intros;apply UL)⟩⟩⟩⟩,⟨⟨⟨(by intros;apply UM),(by intros;apply UN)⟩,⟨(by intros;apply UO),⟨(by intros;apply UP),(by intros;apply UQ)⟩⟩⟩,⟨⟨(by intros;apply UR),⟨(by intros;apply UT),(by intros;apply UU)⟩⟩,⟨(by intros;apply UW),⟨(by intros;apply UX),(by intros;apply UY)⟩⟩⟩⟩⟩,⟨⟨⟨⟨(by intros;apply UZ),(by intros;apply U0)⟩,⟨(by intros;apply U1),⟨(by intros;apply U2),(by intros;apply U3)⟩⟩⟩,⟨⟨(by intros;apply U4),⟨(by intros;apply U5),(by intros;apply U6)⟩⟩,⟨(by intros;apply U7),⟨(by intros;apply U8),(by intros;apply U9)⟩⟩⟩⟩,⟨⟨⟨(by intros;apply Va),(by intros;apply Vb)⟩,⟨(by intros;apply Vc),⟨(by intros;apply Vd),(by intros;apply Ve)⟩⟩⟩,⟨⟨(by intros;apply iU),⟨(by intros;apply e5),(by intros;apply og)⟩⟩,⟨(by intros;apply Bn),⟨(by intros;apply qj),(by intros;apply lF)⟩⟩⟩⟩⟩⟩⟩⟩
section
variable{P:Program}{Q:eu->Fr->World->Prop}{aE:Value->Prop}{K:Value->World->Prop}{KW:World->Prop}{S:Fr}{w:World}{A B:Prop}
theorem I_{p:Prop}[Decidable p]{t}(h1:p->A)(I:¬p->B):k4 (.bool (decide p)) A B t:=ae5 h1 I
theorem N_{u:Bool}{t}(h1:u=true->A)(I:u=false->B):k4 (.bool u) A B t:=ae4 h1 I
theorem Q_{n:Int}{t}(h : -9223372036854775808<=n/\n<=9223372036854775807)(hk:aE (.I n)):pB .i64 n aE t:=wrap_i64 h hk
theorem _l{k:IntKind}{n:Int}{t}(h:aE (.int k (k.wrap n))):pB k n aE t:=adi h
theorem AA5{k:IntKind}{n:Int}{t}(h:k.wrap n=n)(hk:aE (.int k n)):pB k n aE t:=adi (by rw[h];exact hk)
theorem _J{ty:F_}{dk dC:G_}{k:IntKind}{a b:Int}{t}(ao:b≠0)(h:pB k (a.tdiv b) aE ⟨⟩):hb P .quo ty dk dC (.int k a) (.int k b) aE t:=aeF ao h
theorem _s{ty:F_}{dk dC:G_}{k:IntKind}{a b:Int}{t}(ao:b≠0)(h:aE (.int k (a.tmod b))):hb P .rem ty dk dC (.int k a) (.int k b) aE t:=aeG ao h
theorem _Z{op:BinOp}{ty:F_}{dk dC:G_}{x y v:B_}{t}(h:∀w,(do eqGuard op ty dk dC x y;binOp op ty x y:Sem B_).run P w = .ok v w)(hk:aE v):hb P op ty dk dC x y aE t:=⟨v,h,hk⟩
theorem _a{sz:Nat}{a:Addr}{len cap:Nat}{k:IntKind}{n:Int}{t}(h:0<=n/\n<len)(hk:aE (.pointer (some (a.add (n.toNat*sz))))):A8 sz (.slice (some a) len cap) (.int k n) aE t:=alM h hk
theorem K_{sz:Nat}{a:Addr}{len cap:Nat}{k:IntKind}{n:Int}{t}(i:Nat)(U:n=i)(h:i<len)(hk:aE (.pointer (some (a.add (i*sz))))):A8 sz (.slice (some a) len cap) (.int k n) aE t:=alL i U h hk
theorem AE2{sz:Nat}{a:Addr}{len:Nat}{k:IntKind}{n:Int}{t}(h:0<=n/\n<len)(hk:aE (.pointer (some (a.add (n.toNat*sz))))):Hf len sz (.pointer (some a)) (.int k n) aE t:=alK h hk
theorem _b{s:ByteArray}{k:IntKind}{n:Int}{t}(c:UInt8)(af:0<=n)(h:s[n.toNat]? = some c)(hk:aE (.int .u8 c.toNat)):Hj (.string s) (.int k n) aE t:=al0 c af h hk
theorem AA6{len:Nat}{cs:Array B_}{k:IntKind}{n:Int}{t}(v:B_)(af:0<=n/\n<len)(h:cs[n.toNat]? = some v)(hk:aE v):Hi len (.agg cs) (.int k n) aE t:=alZ v af h hk
theorem _K{off:Nat}{cs:Array B_}{v:B_}{t}(h:cs[off]? = some v)(hk:aE v):Hd off (.agg cs) aE t:=ahA h hk
theorem W_{z cs:C_ B_}{pl:C_ (Nat×Nat)}{dd:C_ (Nat×G_)}{t}(h:fa S pl dd z=some cs)(hk:aE (.agg cs.toArray)):G1 S z pl dd aE t:=aeM h hk
theorem _B{sz:Nat}{a:H_ Addr}{len cap:Nat}{aR U mx:H_ G_}{t}(l h m:Nat)(h1:eG S aR 0=some l)(I:eG S U len=some h)(ab:eG S mx cap=some m)
  (aH:l<=h/\h<=m/\m<=cap)(a8:mx.isSome=true->U.isSome=true)(hk:aE (.slice (if m=l then a else a.map (·.add (l*sz))) (h - l) (m - l))):rZ S sz (.slice a len cap) aR U mx aE t:=aqC l h m h1 I ab aH a8 hk
theorem AA7{s:ByteArray}{aR U:H_ G_}{t}(l h:Nat)(h1:eG S aR 0=some l)(I:eG S U s.size=some h)(aH:l<=h/\h<=s.size)(hk:aE (.string (s.extract l h))):HA S (.string s) aR U aE t:=aqz l h h1 I aH hk
theorem M_{a:Addr}{c:B_}{t}(h:w.cell? a=some c)(hk:aE c):rW (.pointer (some a)) w aE t:=amv h hk
theorem Z_{n:Nat}{a:Addr}{cs:C_ B_}{t}(h:fi w a cs)(az:cs.length=n)(hk:aE (.agg cs.toArray)):ui n (.pointer (some a)) w aE t:=amu h az hk
theorem _m{d:TypeDesc}{z:B_}{ok:Bool}{m k:B_}{es:Array MapEntry}{r:H_ (Nat×B_)}{t}(h1:rX w m es)(I:Instr.findNow d k es.toList 0=some r)(hk:aE (nn z ok r)):Ba d z ok m k w aE t:=amJ h1 I hk
theorem AE3{m:B_}{es:Array MapEntry}{t}(h:rX w m es)(hk:aE (.I es.size)):Hn m w aE t:=amz h hk
theorem _1{a:Addr}{v hD:B_}{t}(h:w.cell? a=some hD)(ay:w.frozen? a=false)(aG:v.oneCell'=true)(hk:KW (w.setCell a v)):qZ (.pointer (some a)) v w KW t:=acI h ay aG hk
theorem _5{n:Nat}{a:Addr}{cs:Array B_}{t}(az:cs.size=n)(h:∀j,j<n->(∃hD,w.cell? (a.add j)=some hD)/\w.frozen? (a.add j)=false)(h1:∀c∈cs.toList,c.oneCell'=true)(hk:KW (iC w a cs.toList 0)):zf n (.pointer (some a)) (.agg cs) w KW t:=RS az h h1 hk
theorem _6{e:F_}{sz bytes:Nat}{z:B_}{k q:IntKind}{n m:Int}{t}(h:0<=n/\n<=m/\m<=9223372036854775807/\bytes*m<=281474976710656)(hk:K (.slice (some ⟨w.heap.size,0,none⟩) n.toNat m.toNat) (w.alloc (.cells (rT z.cells (m.toNat*sz)) e))) :
  Bd e sz bytes z (.int k n) (.int q m) w K t:=amW h hk
theorem AE4{e:F_}{len sz:Nat}{z cs:C_ B_}{dd:C_ (Nat×G_)}{t}(h:fa S ((List.range len).map fun i=>(i*sz,sz)) dd z=some cs)(hk:K (.slice (some ⟨w.heap.size,0,none⟩) len len) (w.alloc (.cells cs.toArray e))):C9 S e len sz z dd w K t:=DO h hk
theorem _n{ty e:F_}{sz b:Nat}{s x:B_}{t}(h:UH P ty e sz b->∃u b0 w',(Builtin.append_ #[ty,ty] u #[s,x]).run P w = .ok b0 w'/\K b0 w'):ml P ty e sz b s x w K t:=h
theorem _t{d:TypeDesc}{r:Nat}{k v:B_}{es:Array MapEntry}{c:Nat}{q:H_ (Nat×B_)}{t}(h1:w.heap[r]? = some (.map es c))(I:Instr.findNow d k es.toList 0=some q)(hk:KW (fF w r (su es c k v q))):y3 d (.map (some r)) k v w KW t:=am7 h1 I hk
theorem AA8{r pos:Nat}{s:ByteArray}{t}(h:w.heap[r]? = some (.stringIter s pos))(h1:pos<s.size->K (.tuple #[.bool true,.I pos,.int .i32 (Utf8.decode s pos).1]) (fF w r (.stringIter s (pos+(Utf8.decode s pos).2))))
  (I:¬pos<s.size->K (.tuple #[.bool false]) w):Hu (.pointer (some ⟨r,0,none⟩)) w K t:=anw h h1 I
theorem _D{op:Op}{ty:F_}{v:B_}{w':A_}{t}(h:(execOp (aX S) ⟨none,op,ty, "",#[],none⟩).run P w = .ok (.value v) w')(hk:K v w'):sP P op ty S w K t:=⟨v,w',.inl h,hk⟩
theorem J_{f:E_}{args:C_ B_}{R:B_->A_->Prop}{t}(h:aY P f args.toArray w R)(hk:∀v w',R v w'->K v w'):A3 P f args w K t:=aeZ h hk
theorem X_{f:E_}{args:C_ B_}{R:B_->A_->Prop}{Z sU:C_ PanicEntry->A_->Prop}{t}(h:qY P f args.toArray w R Z)(hk:∀v w',R v w'->K v w')(bI:∀c w',Z c w'->sU c w'):HB P f args w K sU t:=qY.mono h hk bI
theorem AA9{f:E_}{L:mW}(hm:P.follows .mixedOrders=true)(an:lH P f=some L){args:C_ B_}{R:B_->A_->Prop}{Z:C_ PanicEntry->A_->Prop}(aV:args.length<=L.n)(h:eg P L.code (v7 L.res R Z ⟨⟩) (h5 args 0) w ⟨⟩):qY P f args.toArray w R Z:=agB hm an aV h
theorem V_{f:E_}{first cap:C_ B_}{args:C_ B_}{R:B_->A_->Prop}{t}(ay:okF P f=true)(h:aY P f (first++args++cap).toArray w R)(hk:∀v w',R v w'->K v w'):yY P (.func (.func f) first.toArray cap.toArray) args w K t:=Or.inl (M4 ay h hk)
theorem _e{f:E_}{first cap:C_ B_}{args:C_ B_}{R:B_->A_->Prop}{t}(ay:okF P f=true)(h:aY P f (first++args++cap).toArray w R)(hk:∀v w',R v w'->K v w'):vw P (.func (.func f) first.toArray cap.toArray) args w K t:=M4 ay h hk
theorem _2{l:Nat}{args:C_ B_}{R:Ending->A_->Prop}{t}(h:YieldAt Fence.wide 0 P l args.toArray w R)(hk:∀e w',R e w'->∃v,e = .returned v/\K v w'):yY P (.func (.yield l) #[] #[]) args w K t :=
 Or.inr ⟨l,rfl,let ⟨fn,tmps,assign,body,h1,I⟩:=h; ⟨fn,tmps,assign,body,h1,I.mono hk⟩⟩
theorem P_{f:E_}{args:C_ B_}{t}(v:B_)(h:∀w',Ext w w'->aY P f args.toArray w' fun u bO=>u=v/\Ext w' bO)(hk:aE v):Hx P f args w aE t:=aoX v h hk
theorem O_{n:F_}{cs:Array B_}{t}(hk:∀w1 b,w.heap.size<=b->Ext w w1->w1.heap[b]? = some (.cells cs n)->K (.pointer (some ⟨b,0,none⟩)) w1):y5 n cs w K t :=
 hk _ _ (GA _) ((Ext.refl w).alloc _) (heap_alloc_new w _)
theorem _g{t}(hk:∀w1 b,w.heap.size<=b->Ext w w1->w1.heap[b]? = some (.map #[] 0)->K (.map (some b)) w1):Hs w K t:=hk _ _ (GA _) ((Ext.refl w).alloc _) (heap_alloc_new w _)
theorem AB0{s:ByteArray}{t}(hk:∀w1 b,w.heap.size<=b->Ext w w1->w1.heap[b]? = some (.stringIter s 0)->K (.pointer (some ⟨b,0,none⟩)) w1):Hy (.string s) w K t :=
 ⟨s,rfl,hk _ _ (GA _) ((Ext.refl w).alloc _) (heap_alloc_new w _)⟩
theorem Y_{e:F_}{len sz:Nat}{z cs:C_ B_}{dd:C_ (Nat×G_)}{t}(h:fa S ((List.range len).map fun i=>(i*sz,sz)) dd z=some cs)
  (hk:∀w1 b,w.heap.size<=b->Ext w w1->w1.heap[b]? = some (.cells cs.toArray e)->K (.slice (some ⟨b,0,none⟩) len len) w1):C9 S e len sz z dd w K t :=
 DO h (hk _ _ (GA _) ((Ext.refl w).alloc _) (heap_alloc_new w _))
theorem _E{b j:Nat}{c:Array B_}{e:F_}{v:B_}{t}(ao:w.heap[b]? = some (.cells c e))(aF:j<c.size)(aG:v.oneCell'=true)
  (hk:∀w1,dy b w w1->w1.heap[b]? = some (.cells (c.set j v aF) e)->KW w1):qZ (.pointer (some (Addr.add ⟨b,0,none⟩ j))) v w KW t :=
 acI (fW ao (Array.getElem?_eq_getElem aF)) (by rw[add_eq];simp[World.frozen?,ao]) aG (hk _ (by have h:=dy.setCell w (Addr.add ⟨b,0,none⟩ j) v;rwa[MJ] at h) (Gz ao aF v))
theorem _W{b:Nat}{c:Array B_}{e:F_}{v:B_}{t}(ao:w.heap[b]? = some (.cells c e))(aF:0<c.size)(aG:v.oneCell'=true)
  (hk:∀w1,dy b w w1->w1.heap[b]? = some (.cells (c.set 0 v aF) e)->KW w1):qZ (.pointer (some ⟨b,0,none⟩)) v w KW t :=
 _E (j:=0) (t:=⟨⟩) ao aF aG hk
theorem T_{b n:Nat}{c cs:Array B_}{e:F_}{t}(ao:w.heap[b]? = some (.cells c e))(an:c.size=n)(az:cs.size=n)(h1:∀x∈cs.toList,x.oneCell'=true)
  (hk:∀w1,dy b w w1->w1.heap[b]? = some (.cells cs e)->KW w1):zf n (.pointer (some ⟨b,0,none⟩)) (.agg cs) w KW t :=
 RS az (fun j aF=>⟨⟨_,fW ao (Array.getElem?_eq_getElem AK)⟩,by rw[add_eq];simp[World.frozen?,ao]⟩) h1 (hk _ (dy.iC cs.toList w ⟨b,0,none⟩ 0) (aco ao AK))
theorem _A{b:eN}{t}(c8:Fr->A_->Prop)(kI:Fr->A_->Nat)(af:c8 S w)
  (aP:∀a6 w',(∀t,b.fV.contains t=false->a6 t=S t)->c8 a6 w'->eg P b (ic (fun fT bO=>c8 fT bO/\kI fT bO<kI a6 w') Q ⟨⟩) a6 w' ⟨⟩):y2 P b Q S w t:=amN c8 kI af aP
theorem _h{f:E_}{L:mW}(hm:P.follows .mixedOrders=true)(an:lH P f=some L){args:C_ B_}{R:B_->A_->Prop}(aV:args.length<=L.n)(h:eg P L.code (ra L.res R ⟨⟩) (h5 args 0) w ⟨⟩):aY P f args.toArray w R:=enter hm an aV h
end
attribute [irreducible] eg
attribute [irreducible] kG
attribute [irreducible] mg
attribute [irreducible] gj
attribute [irreducible] AP
attribute [irreducible] tm
attribute [irreducible] sZ
attribute [irreducible] qQ
attribute [irreducible] oa
attribute [irreducible] vv
attribute [irreducible] yY
attribute [irreducible] py
attribute [irreducible] vD
attribute [irreducible] Hx
attribute [irreducible] Dt
attribute [irreducible] e4
attribute [irreducible] pz
attribute [irreducible] jk
attribute [irreducible] vu
attribute [irreducible] hb
attribute [irreducible] zh
attribute [irreducible] Dd
attribute [irreducible] pB
attribute [irreducible] k4
attribute [irreducible] kt
attribute [irreducible] Dh
attribute [irreducible] A8
attribute [irreducible] Hf
attribute [irreducible] Hj
attribute [irreducible] Hi
attribute [irreducible] Hd
attribute [irreducible] Di
attribute [irreducible] G1
attribute [irreducible] rZ
attribute [irreducible] HA
attribute [irreducible] vx
attribute [irreducible] Dl
attribute [irreducible] Dk
attribute [irreducible] Db
attribute [irreducible] Dm
attribute [irreducible] Dn
attribute [irreducible] y7
attribute [irreducible] rW
attribute [irreducible] ui
attribute [irreducible] Ba
attribute [irreducible] Hn
attribute [irreducible] qZ
attribute [irreducible] zf
attribute [irreducible] Bd
attribute [irreducible] C9
attribute [irreducible] ml
attribute [irreducible] y3
attribute [irreducible] Hu
attribute [irreducible] Hy
attribute [irreducible] sP
attribute [irreducible] A3
attribute [irreducible] HB
attribute [irreducible] xy
attribute [irreducible] Mz
attribute [irreducible] Ds
attribute [irreducible] vw
attribute [irreducible] y5
attribute [irreducible] Hs
attribute [irreducible] y2
attribute [irreducible] jC
attribute [irreducible] ic q3 ra v7
end ba
end
section
namespace ba
open Go Go.RowKit
structure bn{α:Type}(sz:Nat)(R:World->Addr->α->Prop)(w:World)(v:Value)(xs:List α):Prop where
 ex:∃aQ cap,v = .slice aQ xs.length cap/\xs.length<=cap/\cap<=maxLen/\(xs≠[]->aQ.isSome=true)/\∀a,aQ=some a->∀i (h:i<xs.length),R w (a.add (i*sz)) xs[i]
theorem bn.form{α:Type}{sz:Nat}{R:A_->Addr->α->Prop}{w:A_}{v:B_}{xs:C_ α}(h:bn sz R w v xs):∃aQ cap,v = .slice aQ xs.length cap/\xs.length<=9223372036854775807:=by
 obtain⟨aQ,cap,h1,I,ab,_⟩:=h.ex;exact⟨aQ,cap,h1,by unfold maxLen at ab;omega⟩
theorem bn.addr{α:Type}{sz:Nat}{R:A_->Addr->α->Prop}{w:A_}{aQ:H_ Addr}{n c:Nat}{xs:C_ α}(h:bn sz R w (.slice aQ n c) xs)(az:0<xs.length:=by omega):∃a,aQ=some a:=by
 obtain⟨kY,cap,h1,I,ab,aH,_⟩:=h.ex;injection h1 with h1 _ _
 subst h1;exact Option.isSome_iff_exists.1 (aH (by intro e;subst e;simp at az))
theorem bn.at{α:Type}{sz:Nat}{R:A_->Addr->α->Prop}{w:A_}{a:Addr}{n c:Nat}{xs:C_ α}(h:bn sz R w (.slice (some a) n c) xs)(i:Nat)(U:i<xs.length):R w (a.add (i*sz)) xs[i]:=by
 obtain⟨kY,cap,h1,I,ab,aH,a8⟩:=h.ex;injection h1 with h1 _ _
 subst h1;exact a8 a rfl i U
theorem bn.ext{α:Type}{sz:Nat}{R:A_->Addr->α->Prop}(bH:∀w w' a x,Ext w w'->R w a x->R w' a x){w w':A_}{v:B_}{xs:C_ α}(he:Ext w w')(h:bn sz R w v xs):bn sz R w' v xs:=by
 obtain⟨aQ,cap,h1,I,ab,aH,a8⟩:=h.ex;exact⟨aQ,cap,h1,I,ab,aH,fun a aV i U=>bH _ _ _ _ he (a8 a aV i U)⟩
def Flat{α:Type}(enc:α->C_ B_)(w:A_)(a:Addr)(x:α):Prop:=fi w a (enc x)
theorem Flat.ext{α:Type}{enc:α->C_ B_}(w w':A_)(a:Addr)(x:α)(he:Ext w w')(h:Flat enc w a x):Flat enc w' a x:=fi.ext he h
def iQ{oT:Type}(enc:oT->B_)(es:C_ MapEntry)(m:C_ (oT×B_)):Prop:=es.map (fun e=>(e.key,e.val))=m.map (fun p=>(enc p.1,p.2))
theorem zD{oT:Type}[DecidableEq oT]{enc:oT->B_}{d:TypeDesc}(ak:∀x y,Instr.sameNow d (enc x) (enc y)=some (decide (x=y)))(x:oT):∀(es:C_ MapEntry) (m:C_ (oT×B_)) (i:Nat),iQ enc es m ->
  ∃r,Instr.findNow d (enc x) es i=some r/\r.map (·.2)=(m.find? (fun p=>decide (x=p.1))).map (·.2)
 | [],m,i,h=>by
  have:m=[]:=by cases m with | nil=>rfl | cons _ _=>simp[iQ] at h
  subst this;exact⟨none,rfl,rfl⟩
 | e :: es,m,i,h=>by
  cases m with
  | nil=>simp[iQ] at h
  | cons p m =>
   simp only[iQ,List.map_cons,List.cons.injEq,Prod.mk.injEq] at h;obtain⟨⟨h1,I⟩,ab⟩:=h;unfold Instr.findNow;rw[h1,ak];by_cases ag:x=p.1
   .simp only[ag,decide_true];exact⟨_,rfl,by simp[I]⟩
   .simp only[ag,decide_false];obtain⟨r,aH,a8⟩:=zD ak x es m (i+1) ab;exact⟨r,aH,by rw[a8];simp[ag]⟩
theorem Lu(x y:ByteArray):Instr.sameNow .string (.string x) (.string y)=some (decide (x=y)):=by simp[Instr.sameNow,DK]
theorem Lt(k q:IntKind)(x y:Int):Instr.sameNow (.int q) (.int k x) (.int k y)=some (decide (x=y)):=by simp[Instr.sameNow];rfl
theorem iQ.push{oT:Type}{enc:oT->B_}{es:Array MapEntry}{m:C_ (oT×B_)}(h:iQ enc es.toList m)(x:oT)(v:B_)(c:Nat):iQ enc (es.push { key:=enc x,val:=v,born:=c }).toList (m++[(x,v)]):=by
 simp only[iQ] at *;simp[h]
theorem NY{α:Type}{enc:α->C_ B_}{sz:Nat}(dr:∀x,(enc x).length=sz):∀(xs:C_ α) (i j:Nat) (h:i<xs.length),j<sz->(xs.flatMap enc)[i*sz+j]? = (enc xs[i])[j]?
 | [],i,j,h,_=>by simp at h
 | x :: xs,0,j,h,aF=>by
  simp only[List.flatMap_cons,Nat.zero_mul,Nat.zero_add,List.getElem_cons_zero];rw[List.getElem?_append_left (by rw[dr];exact aF)]
 | x :: xs,i+1,j,h,aF=>by
  simp only[List.flatMap_cons,List.getElem_cons_succ];rw[List.getElem?_append_right (by rw[dr,AH2];omega),dr,show(i+1)*sz+j - sz=i*sz+j from by rw[AH2];omega];exact NY dr xs i j (by simpa using h) aF
theorem afe{α:Type}{enc:α->C_ B_}{sz:Nat}(dr:∀x,(enc x).length=sz){w:A_}{b:Nat}{e:F_}{f:Nat×Nat}{xs:C_ α}(ao:w.heap[b]? = some (.cells (xs.flatMap enc).toArray e f))(i:Nat)(h:i<xs.length) :
  fi w (Addr.add ⟨b,0,none⟩ (i*sz)) (enc xs[i]):=fun j v aF=>by
 have EZ:j<sz:=by rw[<-dr xs[i]];exact(List.getElem?_eq_some_iff.1 aF).1
 rw[add_add];exact fW ao (by rw[List.getElem?_toArray,NY dr xs i j h EZ];exact aF)
theorem bn.cx{α:Type}{enc:α->C_ B_}{sz:Nat}(dr:∀x,(enc x).length=sz){R:A_->Addr->α->Prop}{w:A_}{b n:Nat}{e:F_}{f:Nat×Nat}{xs:C_ α}(ao:w.heap[b]? = some (.cells (xs.flatMap enc).toArray e f))
  (az:n=xs.length)(hm:xs.length<=maxLen)(bH:∀a x,x∈xs->fi w a (enc x)->R w a x):bn sz R w (.slice (some ⟨b,0,none⟩) n n) xs:=by
 subst az;refine⟨_,_,rfl,GA _,hm,fun _=>rfl,fun a aV i U=>?_⟩;injection aV with aV;subst aV
 exact bH _ _ (GR _) (afe dr ao i U)
theorem bn.nil{α:Type}{sz:Nat}{R:A_->Addr->α->Prop}{w:A_}:bn sz R w (.slice none 0 0) ([]:C_ α):=⟨none,0,rfl,GA _,AF6 _,fun h=>absurd rfl h,fun a h=>by cases h⟩
end ba
end
section
namespace ba
open Go Go.RowKit Go.ChangeShapes Go.WideShapes Go.Deep
section
variable{H:Type}{enc:TypeId×Value->H}{P:Program}
theorem acX{w:A_}:∀{cD:C_ F_} {vs:C_ B_} {ds:C_ (DataW H)} {dd:C_ MemPlace},DataW.TrodAll enc P w 0 (fun _=>true) true cD vs ds dd->∀x∈dd,x.block<w.heap.size
 | [],_,_,_,h=>by
  obtain⟨rfl,rfl,rfl⟩:=trodAll_nil h;intro x ag;cases ag
 | _ :: _,_,_,_,h=>by
  obtain⟨v,ac5,d,Wn,a,b,rfl,rfl,rfl,⟨m,h1⟩,I⟩:=trodAll_cons h;intro x ag;rcases List.mem_append.1 ag with ag | ag
  .exact DataW.trod_lt m _ _ _ h1 x ag
  .exact acX I x ag
theorem acW{w:A_}{sp:Nat->Bool}{bb:Bool}:∀{cD:C_ F_} {vs:C_ B_} {ds:C_ (DataW H)} {dd:C_ MemPlace},DataW.TrodAll enc P w 0 sp bb cD vs ds dd->ds.length=cD.length
 | [],_,_,_,h=>by
  obtain⟨rfl,rfl,rfl⟩:=trodAll_nil h;rfl
 | _ :: _,_,_,_,h=>by
  obtain⟨v,ac5,d,Wn,a,b,rfl,rfl,rfl,h1,I⟩:=trodAll_cons h;simp[acW I]
theorem acV(aC:laidOutB P=true){W b8:A_}(ao:Below W.heap.size W b8):∀{cD:C_ F_} {vs:C_ B_} {ds:C_ (DataW H)} {dd:C_ MemPlace},(cD.all fun t=>P.readableRec t&&decide (t<P.types.size))=true ->
  DataW.TrodAll enc P W 0 (fun _=>true) true cD vs ds dd->(∀x∈dd,x.block<W.heap.size)->DataW.TrodAll enc P b8 0 (fun b=>decide (b<W.heap.size)) true cD vs ds dd
 | [],_,_,_,_,h,_=>by
  obtain⟨rfl,rfl,rfl⟩:=trodAll_nil h;exact trodAll_mk0
 | _ :: _,_,_,_,aP,h,cg=>by
  obtain⟨v,ac5,d,Wn,a,b,rfl,rfl,rfl,h1,I⟩:=trodAll_cons h;simp only[List.all_cons,Bool.and_eq_true,decide_eq_true_eq] at aP;exact trodAll_cons_mk (Below.trod aC aP.1.1 aP.1.2 h1 ao fun x ag=>cg x (AH9 _ ag)) (acV aC ao aP.2 I fun x ag=>cg x (AI4 _ ag))
theorem auJ{s:ChangeSpec}{f:Func}{tb:F_}(aC:laidOutB P=true)(aP:(f.params.toList.all fun t=>P.readableRec t&&decide (t<P.types.size))=true)(aG:s.vars=[])
  (ak2:f.resultTypes=#[tb])(aB:P.underlying tb=some .bool)(ak:∀ds:C_ (DataW H),ds.length=f.params.toList.length->s.fn H ds = { results:=[.lit (.bool true)],args:=ds })
  {W b8:A_}{args:Array B_}{ds gs:C_ (DataW H)}{before:C_ MemPlace}(eD:DataW.Whole enc P f.params.toList s.vars false W args.toList ds gs before)(VE:Ext W b8) :
  s.post enc P f false true false false W args (.bool true) b8:=by
 have Ex:=eD;obtain⟨p,q,dg,nb,rfl,atH,lO⟩:=eD;rw[aG] at nb;obtain⟨rfl,rfl⟩:=trodVars_none nb;have cg:=acX dg;have e:=ak ds (acW dg);refine⟨ds,[],_,[],p,[],Ex,?_,?_,?_,VE.frame _,fun h=>by cases h⟩
 .rw[AF1,e,ak2];exact trodAll_mk1 (shut_bool aB _)
 .rw[AF1,e];exact acV aC VE aP dg cg
 .rw[AF1,e,aG];rfl
variable{w:World}{base:Nat}{spare:Nat->Bool}{held:Bool}
theorem QD{α:Type}(n:Nat)(R:Nat->α->Prop)(h:∀i,i<n->∃x,R i x):∃xs:C_ α,xs.length=n/\∀i (U:i<xs.length),R i xs[i]:=by
 induction n with
 | zero=>exact⟨[],rfl,fun i U=>absurd U (K8 _)⟩
 | succ n fh =>
  obtain⟨xs,aC,ag⟩:=fh fun i U=>h i AK;obtain⟨x,uW⟩:=h n AK;refine⟨xs++[x],by simp[aC],fun i U=>?_⟩;by_cases az:i<xs.length
  .rw[AI5 az];exact ag i az
  .have:i=n:=by simp at U;omega
   subst this;rw[AI6 AK];simpa[aC] using uW
end
theorem afi{H:Type}{enc:F_×B_->H}{P:D_}{w:A_}{base:Nat}{sp:Nat->Bool}{held:Bool}{fuel:Nat}{t e:F_}{n:Nat}{cs:C_ B_}{zs:C_ ByteArray}{p:C_ MemPlace}
  (aB:P.underlying t=some (.array n e))(he:P.underlying e=some .string)(e0:P.cellsOf e=1)(yi:P.cellsOf t=n)
  (h:DataW.trod enc P w base sp held fuel t cs=some (.agg (zs.map fun z=>.lit (.string z.data.toList)),p)):cs=zs.map Value.string:=by
 cases fuel with
 | zero=>simp[DataW.trod] at h
 | succ fuel =>
  simp only[DataW.trod,aB,e0,yi,Nat.mul_one] at h;split at h
  .rename_i aC;obtain⟨xs,hm,ag⟩:=Option.map_eq_some_iff.1 h;have tF:xs.map (·.1)=zs.map fun z=>(DataW.lit (.string z.data.toList):DataW H):=by
    have:=congrArg Prod.fst ag
    simpa using this
   have wS:xs.length=n:=by simpa using Lib.mapM_length hm
   have auf:zs.length=n:=by
    have:=congrArg List.length tF
    simp at this;omega
   apply List.ext_getElem?;intro i;by_cases U:i<n
   .obtain⟨b,ao,ay⟩:=Lib.mapM_at hm i i (by simp[U]);obtain⟨z,an,rfl,_⟩:=DataW.trod_string he ay;have h1:cs[i]? = some (.string z):=by
     have:=congrArg (·[0]?) an
     simpa[List.getElem?_take,List.getElem?_drop] using this
    have I:(xs.map (·.1))[i]? = some (DataW.lit (.string z.data.toList):DataW H):=by simp[ao]
    rw[tF] at I;simp only[List.getElem?_map,Option.map_eq_some_iff,DataW.lit.injEq,Lit.string.injEq] at I;obtain⟨adp,Fw,e⟩:=I;have aJ:adp=z:=by
     cases adp;cases z;simp at e;simp[e]
    simp[h1,Fw,aJ]
   .rw[List.getElem?_eq_none AK,List.getElem?_eq_none (by simp;omega)]
  .cases h
theorem avi{P:D_}{W:A_}{name:String}{zs:C_ ByteArray}{rest:C_ (String×DataW Unit)}{g:Nat}{t e:F_}{n:Nat}
  (aK:P.globalNamed name=some g)(PV:(P.globals[g]?).map (·.type)=some t)(aB:P.underlying t=some (.array n e))(he:P.underlying e=some .string)(e0:P.cellsOf e=1)(yi:P.cellsOf t=n)
  (h:laidMet P ((name,.agg (zs.map fun z=>.lit (.string z.data.toList))) :: rest) W):fi W ⟨g,0,none⟩ (zs.map Value.string):=by
 obtain⟨dd,⟨ahM,hY,cs,fuel,p,q,ajP,uV,aln,bb,_,_⟩,_⟩:=h;obtain rfl:=Option.some.inj (aK.symm.trans ajP);obtain rfl:=Option.some.inj (PV.symm.trans uV);have e:=afi aB he e0 yi bb;intro j v aF
 have:=World.var?_cell aK aln j
 rw[show Addr.add ⟨g,0,none⟩ j=⟨g,j,none⟩ from by cases j<;>simp[Addr.add],this,Array.getElem?_toList.symm,e];exact aF
end ba
end
section
namespace ba
open Go Go.RowKit
theorem Ext.grown{w0 w w':A_}{r:H_ Nat}(he:Ext w0 w)(aK:w.grownBy w' r)(aP:∀k,r=some k->w0.heap.size<=k):Ext w0 w':=Below.grown he aK he.size aP
theorem an6{w w':A_}{base:Nat}{e:F_}{sz:Nat}{v:B_}{n:Nat}{xs:C_ B_}(he:Ext w w')(h:w.ownsRow base e sz v n xs):w'.ownsRow base e sz v n xs:=by
 refine⟨h.1,?_⟩;rcases h.2 with az | ⟨g,cap,cur,rfl,ao,B9,rest⟩
 .exact .inl az
 .exact .inr ⟨g,cap,cur,rfl,ao,he.obj B9,rest⟩
theorem an7{w:A_}{base vN:Nat}{e:F_}{sz:Nat}{v:B_}{n:Nat}{xs:C_ B_}(ao:vN<=base)(h:w.ownsRow base e sz v n xs):w.ownsRow vN e sz v n xs:=by
 refine⟨h.1,?_⟩;rcases h.2 with az | ⟨g,cap,cur,rfl,BY,rest⟩
 .exact .inl az
 .exact .inr ⟨g,cap,cur,rfl,QB ao BY,rest⟩
theorem aa6{w:A_}{base:Nat}{e:F_}{sz:Nat}{v:B_}{n:Nat}{xs:C_ B_}(h:w.ownsRow base e sz v n xs):∃aQ cap,v = .slice aQ n cap/\n<=cap/\cap<=maxLen/\(n≠0->aQ.isSome=true)/\∀a,aQ=some a->fi w a xs:=by
 rcases h.2 with ⟨rfl,rfl⟩ | ⟨g,cap,cur,rfl,ao,B9,h1,I,ab,aH⟩
 .exact⟨none,0,rfl,GA _,AF6 _,fun h=>absurd rfl h,fun a aV=>by cases aV⟩
 .exact⟨_,cap,rfl,h1,I,fun _=>rfl,fun a aV=>by injection aV with aV;subst aV;exact fun j u aF=>h.cells (g:=g) rfl j u aF⟩
theorem an8{α:Type}{enc:α->C_ B_}{w:A_}{base:Nat}{e:F_}{sz:Nat}{v:B_}{xs:C_ α}(dr:∀x,(enc x).length=sz)(h:w.ownsRow base e sz v xs.length (xs.flatMap enc)):bn sz (Flat enc) w v xs:=by
 obtain⟨aQ,cap,rfl,h1,I,ab,aH⟩:=aa6 h;refine⟨aQ,cap,rfl,h1,I,fun az=>ab (by intro e;exact az (AF9 e)),fun a aV i U=>?_⟩;intro j u aF;have EZ:j<sz:=by rw[<-dr xs[i]];exact(List.getElem?_eq_some_iff.1 aF).1
 rw[add_add];exact aH a aV _ _ (by rw[NY dr xs i j U EZ];exact aF)
theorem AB1{P:D_}{cT:B_->A_->Prop}{w:A_}{ty e:F_}{sz b:Nat}{s:B_}{a:Addr}{m c:Nat}{t}{base n:Nat}{xs news:C_ B_}(ak:w.ownsRow base e sz s n xs)(an:fi w a news)(aC:news.length=m*sz)
  (h1:∀u∈news,u.oneCell'=true)(lp:n+m<=maxLen)(ao:(n+m)*b<=140737488355328)(kC:base<=w.heap.size)
  (hk:∀b0 w',w'.ownsRow base e sz b0 (n+m) (xs++news)->w.grownBy w' s.ownBlock->cT b0 w'):ml P ty e sz b s (.slice (some a) m c) w cT t :=
 _n fun⟨aB,i,z,U,bI,Cn,B0,Al,dr⟩=>by
  obtain⟨b0,w',aP,I,ab,_⟩:=run_append_own (P:=P) w base ty ty e i z sz b aB U bI Cn B0 Al dr s n xs ak a m c news aC an h1 lp ao kC;exact⟨ty,b0,w',aP,hk b0 w' I ab⟩
theorem add_zero(a:Addr):a.add 0=a:=by simp[Addr.add]
theorem bn.cap{α:Type}{sz:Nat}{R:A_->Addr->α->Prop}{w:A_}{aQ:H_ Addr}{n c:Nat}{xs:C_ α}(h:bn sz R w (.slice aQ n c) xs):xs.length<=c:=by
 obtain⟨kY,cap,e,I,ab,aH,a8⟩:=h.ex;injection e with bB aJ a7
 subst a7;exact I
theorem bn.take{α:Type}{sz:Nat}{R:A_->Addr->α->Prop}{w:A_}{aQ:H_ Addr}{n c:Nat}{xs:C_ α}(h:bn sz R w (.slice aQ n c) xs)(k:Nat)(hk:k<=xs.length) :
  bn sz R w (.slice (if c=0 then aQ else aQ.map (·.add (0*sz))) (k - 0) (c - 0)) (xs.take k):=by
 obtain⟨kY,cap,e,I,ab,aH,a8⟩:=h.ex;injection e with bB aJ a7
 subst bB aJ a7;have e:(if c=0 then aQ else aQ.map (·.add (0*sz)))=aQ:=by
  split
  .rfl
  .cases aQ with
   | none=>rfl
   | some a=>simp[add_zero]
 rw[e];refine⟨aQ,c,by simp[List.length_take,Nat.min_eq_left hk],by simp[List.length_take];omega,ab,fun az=>aH (by intro e;subst e;simp at az),fun a aV i U=>?_⟩;have cH:i<xs.length:=by simp[List.length_take] at U;omega
 rw[AI7];exact a8 a aV i cH
theorem Xb{α:Type}{enc:α->C_ B_}{sz:Nat}(dr:∀x,(enc x).length=sz):∀(xs:C_ α) (p:Nat) (v:B_),(xs.flatMap enc)[p]? = some v->∃i j,∃h:i<xs.length,j<sz/\p=i*sz+j/\(enc xs[i])[j]? = some v
 | [],p,v,h=>by simp at h
 | x :: xs,p,v,h=>by
  rw[AI0] at h;by_cases au:p<sz
  .rw[List.getElem?_append_left (by rw[dr];exact au)] at h;exact⟨0,p,Bs,au,Bs,h⟩
  .rw[List.getElem?_append_right (by rw[dr];omega),dr] at h;obtain⟨i,j,U,aF,e,I⟩:=Xb dr xs (p - sz) v h;exact⟨i+1,j,by simpa using U,aF,by rw[AH2];omega,by simpa using I⟩
theorem bn.flat{α:Type}{enc:α->C_ B_}{sz:Nat}{R:A_->Addr->α->Prop}{w:A_}{a:Addr}{n c:Nat}{xs:C_ α}(dr:∀x,(enc x).length=sz)(bH:∀a x,R w a x->fi w a (enc x))
  (h:bn sz R w (.slice (some a) n c) xs):fi w a (xs.flatMap enc):=by
 intro p v au;obtain⟨i,j,U,aF,rfl,I⟩:=Xb dr xs p v au
 have:=bH _ _ (h.at i U) j v I
 rwa[add_add] at this
theorem x8{α:Type}{enc:α->C_ B_}{sz:Nat}(dr:∀x,(enc x).length=sz):∀(xs:C_ α),(xs.flatMap enc).length=xs.length*sz
 | []=>Bs
 | x :: xs=>by rw[AI0,Ln,x8 dr xs,dr,AG2,AH2];omega
theorem _u{P:D_}{Q:eu->Fr->A_->Prop}{S:Fr}{w:A_}{a b:eN}{t}(N:Fr->A_->Prop)(h1:eg P a (ic N Q ⟨⟩) S w ⟨⟩)
  (I:∀a6 w',(∀t,a.fV.contains t=false->a6 t=S t)->N a6 w'->eg P b Q a6 w' ⟨⟩):eg P (.seq a b) Q S w t:=by
 unfold eg ic at *;exact p8 a _ _ S w (fun e a6 w' ak h=>match e,h with | .normal,h=>I a6 w' ak h | .exit _,h=>h | .ret,h=>h | .gx _,h=>h) h1
theorem _7{P:D_}{hY:F_}{dk dC:G_}{aE:B_->Prop}{a b:Bool}{t}(h:P.underlying hY=some .bool)(hk:aE (.bool (a != b))):hb P .neq hY dk dC (.bool a) (.bool b) aE t :=
 _Z (v:=.bool (a != b)) (fun w=>by cases a<;>cases b<;>simp[eqGuard_at_bool,binOp,run_equal_bool w hY _ _ h]) hk
theorem an5{w:A_}{base:Nat}{e:F_}{sz b:Nat}(ao:base<=b)(h:w.heap[b]? = some (.cells #[] e)):w.ownsRow base e sz (.slice (some ⟨b,0,none⟩) 0 0) 0 [] :=
 ⟨Bs,.inr ⟨b,0,#[],rfl,ao,h,GA _,AF6 _,Bs,Bs⟩⟩
end ba
end
section
namespace ba
open Go Go.RowKit
class oV{α:Type}(R:World->Addr->α->Prop)(enc:outParam (α->List Value)):Prop where
 HP:∀w a x,R w a x->fi w a (enc x)
instance auh{α:Type}(enc:α->List Value):oV (Flat enc) enc:=⟨fun _ _ _ h=>h⟩
section
variable{P:Program}{Q:eu->Fr->World->Prop}{aE:Value->Prop}{K:Value->World->Prop}{S:Fr}{w w0:World}
theorem _L{b j:Nat}{c:C_ B_}{ty:F_}{f:Nat×Nat}{v:B_}{t}(ao:w0.heap[b]? = some (.cells c.toArray ty f))(he:Ext w0 w)(aF:c[j]? = some v)(hk:aE v):rW (.pointer (some (Addr.add ⟨b,0,none⟩ j))) w aE t :=
 M_ (fW (he.obj ao) (by simpa using aF)) hk
theorem _C{b:Nat}{c:C_ B_}{ty:F_}{f:Nat×Nat}{v:B_}{t}(ao:w0.heap[b]? = some (.cells c.toArray ty f))(he:Ext w0 w)(aF:c[0]? = some v)(hk:aE v):rW (.pointer (some ⟨b,0,none⟩)) w aE t :=
 M_ (BB (he.obj ao) (by simpa using aF)) hk
theorem R_{b n:Nat}{c:C_ B_}{ty:F_}{f:Nat×Nat}{t}(ao:w0.heap[b]? = some (.cells c.toArray ty f))(he:Ext w0 w)(az:c.length=n)(hk:aE (.agg c.toArray)):ui n (.pointer (some ⟨b,0,none⟩)) w aE t :=
 Z_ (gT (he.obj ao)) az hk
theorem _Q{α:Type}{sz i j n c:Nat}{R:A_->Addr->α->Prop}{enc:α->C_ B_}[oV R enc]{a:Addr}{xs:C_ α}{v:B_}{t}(aC:bn sz R w0 (.slice (some a) n c) xs)(he:Ext w0 w)(U:i<xs.length)(aF:(enc xs[i])[j]? = some v)
  (hk:aE v):rW (.pointer (some ((a.add (i*sz)).add j))) w aE t:=M_ (he.cell (oV.HP _ _ _ (aC.at i U) j v aF)) hk
theorem _R{α:Type}{i n c:Nat}{R:A_->Addr->α->Prop}{enc:α->C_ B_}[oV R enc]{a:Addr}{xs:C_ α}{v:B_}{t}(aC:bn 1 R w0 (.slice (some a) n c) xs)(he:Ext w0 w)(U:i<xs.length)(aF:(enc xs[i])[0]? = some v)
  (hk:aE v):rW (.pointer (some (a.add (i*1)))) w aE t:=by
 have h:=oV.HP (R:=R) _ _ _ (aC.at i U) 0 v aF;rw[add_zero] at h;exact M_ (he.cell h) hk
theorem _S{α:Type}{sz i n c m:Nat}{R:A_->Addr->α->Prop}{enc:α->C_ B_}[oV R enc]{a:Addr}{xs:C_ α}{t}(aC:bn sz R w0 (.slice (some a) n c) xs)(he:Ext w0 w)(U:i<xs.length)(az:(enc xs[i]).length=m)
  (hk:aE (.agg (enc xs[i]).toArray)):ui m (.pointer (some (a.add (i*sz)))) w aE t:=Z_ ((oV.HP _ _ _ (aC.at i U)).ext he) az hk
theorem _T{p:Prop}[Decidable p]{A B:Prop}{t}(h:p)(hk:A):k4 (.bool (decide p)) A B t:=I_ (fun _=>hk) fun bo=>absurd h bo
theorem _U{p:Prop}[Decidable p]{A B:Prop}{t}(h:¬p)(hk:B):k4 (.bool (decide p)) A B t:=I_ (fun bo=>absurd bo h) fun _=>hk
theorem _F{u:Bool}{A B:Prop}{t}(h:u=true)(hk:A):k4 (.bool u) A B t:=N_ (fun _=>hk) fun bo=>by rw[h] at bo;cases bo
theorem _G{u:Bool}{A B:Prop}{t}(h:u=false)(hk:B):k4 (.bool u) A B t:=N_ (fun bo=>by rw[h] at bo;cases bo) fun _=>hk
theorem _V{sz:Nat}{a:Addr}{len cap:Nat}{k:IntKind}{i:Nat}{t}(h:i<len)(hk:aE (.pointer (some (a.add (i*sz))))):A8 sz (.slice (some a) len cap) (.int k (i:Int)) aE t:=K_ i rfl h hk
theorem _M{d n:Nat}{ty:F_}{cs:Array B_}{x:G_}{r:C_ Step}{cT:Fr->A_->Prop}{vs:C_ B_}{t1 t}(ag:∀v,aX (b4 S d v) x = .agg vs.toArray)(az:vs.length=n)(an:cs.size=n)(h1:∀u∈vs,u.oneCell'=true)
  (hk:∀w1 b,w.heap.size<=b->Ext w w1->w1.heap[b]? = some (.cells vs.toArray ty)->kG P r (b4 S d (.pointer (some ⟨b,0,none⟩))) w1 cT ⟨⟩) :
  y5 ty cs w (fun v w'=>kG P (⟨none,none,.e (.gY n (.tmp d) x)⟩ :: r) (put S (some d) v) w' cT t1) t:=by
 refine O_ fun w1 b ao he c3=>?_;simp -dsimp only[Sr,Ss,St,Su,Sv,Sw,Sx,Sy,Sz,SA,SC,SD,SE,SF,SG,SH,SI,SJ,SK,cB,SL,SM,SN,SO,SP,SQ,SR,SS,SU,SV,uf,SZ,S0,S1,S2,S3,S4,S5,S6,S7,yZ,jQ,da,fJ,eo,iP,iE,gR,iF,gk,Tc,Td,Te,Tf,Tg,Th,Ti,Tj,Tk,Tl,Tm,H1,Tn,To,Tp,Tq,Tr,Ts,Tt,Tu,Tv,Tw,Tx,Ty,Tz,TA,TB,TC,TD,TE,TF,TG,TH,TI,TJ,TK,TL,TM,TN,TO,TR,TS,M2,TT,TU,TV,TW,TX,TY,TZ,T0,T1,T2,T3,T4,T5,T6,T7,T8,T9,Ub,Uc,Ud,Ue,Uf,Ug,Uh,Ui,Uj,Uk,Um,Un,Uo,Up,Uq,Ur,Us,Ut,Uu,Uv,Ux,Dv,Dw,Uy,Uz,UA,Dx,Bg,UB,UC,UI,UJ,UK,UL,UM,UN,UO,UP,UQ,UR,UT,UU,UW,UX,UY,UZ,U0,U1,U2,U3,U4,U5,U6,U7,U8,U9,Va,Vb,Vc,Vd,Ve,iU,e5,og,Bn,qj,lF,Nat.reduceAdd,Nat.reduceEqDiff,reduceIte,reduceCtorEq,df,ag];refine T_ (cs:=vs.toArray) c3 an (by simpa using az) (by simpa using h1) fun aD hw av=>?_;exact hk aD b ao (hw.ext he ao) av
theorem _i{b:eN}{t}(i N:Nat)(jl:Nat->Fr->A_->Prop)(Pb:S i = .I 0)(af:jl 0 S w)
  (aP:∀(k:Nat) a6 w',(∀t,b.fV.contains t=false->a6 t=S t)->k<=N->a6 i = .I k->jl k a6 w' ->
   eg P b (ic (fun fT bO=>k<N/\fT i = .I ((k:Int)+1)/\jl (k+1) fT bO) Q ⟨⟩) a6 w' ⟨⟩):y2 P b Q S w t:=by
 refine _A (fun S w => ∃k:Nat,k<=N/\S i = .I k/\jl k S w) (fun S _=>(N - intOf (S i)).toNat) ⟨0,AF6 _,by simpa using Pb,af⟩ ?_;rintro a6 w' cc ⟨k,hk,U,aF⟩;have h:=aP k a6 w' cc hk U aF;unfold eg ic at *;refine p8 b _ _ a6 w' (fun e fT bO _ h=>?_) h
 match e,h with
 | .normal,⟨h1,I,ab⟩=>exact⟨⟨k+1,h1,by simpa using I,ab⟩,by simp[U,I,intOf];omega⟩
 | .exit _,h=>exact h
 | .ret,h=>exact h
 | .gx _,h=>exact h
theorem _H{KW:A_->Prop}{d:TypeDesc}{r:Nat}{k v:B_}{es:Array MapEntry}{c:Nat}{t}(h1:w.heap[r]? = some (.map es c))(I:Instr.findNow d k es.toList 0=some none)
  (hk:∀w1,dy r w w1->w1.heap[r]? = some (.map (es.push { key:=k,val:=v,born:=c }) (c+1))->KW w1):y3 d (.map (some r)) k v w KW t :=
 _t h1 I (hk _ (dy.fF _ _ _) (CR (cA h1)))
theorem _N{sz:Nat}{aQ:H_ Addr}{n cap:Nat}{x:G_}{k:IntKind}{t}(h:Nat)(ag:aX S x = .int k (h:Int))(c3:h<=cap)(hk:aE (.slice aQ h cap)):rZ S sz (.slice aQ n cap) none (some x) none aE t:=by
 refine _B 0 h cap (by simp[eG]) (by simp[eG,ag]) (by simp[eG]) ⟨AF6 _,c3,GA _⟩ Bs ?_;have e:(if cap=0 then aQ else aQ.map (·.add (0*sz)))=aQ:=by
  split
  .rfl
  .cases aQ with
   | none=>rfl
   | some a=>simp[add_zero]
 rw[e];exact hk
theorem _8{sz:Nat}{aQ:H_ Addr}{n cap:Nat}{x:G_}{k:IntKind}{t}(l:Nat)(ag:aX S x = .int k (l:Int))(aC:l<=n/\n<=cap)(hk:aE (.slice (if cap=l then aQ else aQ.map (·.add (l*sz))) (n - l) (cap - l))) :
  rZ S sz (.slice aQ n cap) (some x) none none aE t :=
 _B l n cap (by simp[eG,ag]) (by simp[eG]) (by simp[eG]) ⟨aC.1,aC.2,GA _⟩ Bs hk
end
theorem bn.head{α:Type}{sz:Nat}{R:A_->Addr->α->Prop}{w:A_}{aQ:H_ Addr}{n c:Nat}{xs:C_ α}(h:bn sz R w (.slice aQ n c) xs)(k:Nat)(hk:k<=xs.length):bn sz R w (.slice aQ k c) (xs.take k):=by
 have:=h.take k hk
 have e:(if c=0 then aQ else aQ.map (·.add (0*sz)))=aQ:=by
  split
  .rfl
  .cases aQ with
   | none=>rfl
   | some a=>simp[add_zero]
 rw[e] at this;exact this
theorem bn.len{α:Type}{sz:Nat}{R:A_->Addr->α->Prop}{w:A_}{aQ:H_ Addr}{n c:Nat}{xs:C_ α}(h:bn sz R w (.slice aQ n c) xs):n=xs.length/\n<=c/\c<=maxLen:=by
 obtain⟨kY,cap,e,I,ab,_⟩:=h.ex;injection e with bB aJ a7
 subst aJ a7;exact⟨rfl,I,ab⟩
theorem bn.tail{α:Type}{sz:Nat}{R:A_->Addr->α->Prop}{w:A_}{aQ:H_ Addr}{n c:Nat}{xs:C_ α}(h:bn sz R w (.slice aQ n c) xs)(l:Nat)(aC:l<=xs.length) :
  bn sz R w (.slice (if c=l then aQ else aQ.map (·.add (l*sz))) (n - l) (c - l)) (xs.drop l):=by
 obtain⟨bB,aJ,a7⟩:=h.len;subst bB;obtain⟨kY,cap,e,I,ab,aH,a8⟩:=h.ex;injection e with bB aJ a7
 subst bB a7;refine⟨_,_,by rw[AF7],by rw[AF7];omega,AK,fun az=>?_,fun a aV i U=>?_⟩
 .have:xs≠[]:=by intro e;subst e;simp at az
  have:=aH this
  split
  .exact this
  .cases aQ with
   | none=>cases this
   | some a=>rfl
 .have cH:l+i<xs.length:=by rw[AF7] at U;omega
  rw[if_neg AK] at aV;cases aQ with
  | none=>cases aV
  | some b =>
   simp only[Option.map_some,Option.some.injEq] at aV;subst aV;rw[add_add,<-AH2,AJ7];exact a8 b rfl _ cH
structure Mod(A:Nat->Prop)(w w':World):Prop where
 os:w'.os=w.os
 tape:w'.tape=w.tape
 output:w'.output=w.output
 size:w.heap.size<=w'.heap.size
 block:∀k,k<w.heap.size->¬A k->w'.heap[k]? = w.heap[k]?
theorem Mod.refl(A:Nat->Prop)(w:A_):Mod A w w:=⟨rfl,rfl,rfl,GA _,fun _ _ _=>rfl⟩
theorem Mod.trans{A:Nat->Prop}{a b c:A_}(h:Mod A a b)(k:Mod A b c):Mod A a c :=
 ⟨k.os.trans h.os,k.tape.trans h.tape,k.output.trans h.output,QB h.size k.size,fun i U az=>(k.block i (AH4 U h.size) az).trans (h.block i U az)⟩
theorem Mod.then{A B:Nat->Prop}{a b c:A_}(h:Mod B a b)(k:Mod A b c)(ak:∀i,i<a.heap.size->A i->B i):Mod B a c :=
 ⟨k.os.trans h.os,k.tape.trans h.tape,k.output.trans h.output,QB h.size k.size,fun i U az=>(k.block i (AH4 U h.size) fun e=>az (ak i U e)).trans (h.block i U az)⟩
theorem Ext.mod{A:Nat->Prop}{w w':A_}(h:Ext w w'):Mod A w w':=⟨h.os,h.tape,h.output,h.size,fun _ hk _=>h.heap hk⟩
theorem dy.mod{A:Nat->Prop}{b:Nat}{w w':A_}(h:dy b w w')(ao:A b):Mod A w w':=⟨h.os,h.tape,h.output,by rw[h.size];exact GA _,fun k _ az=>h.block k fun e=>az (e ▸ ao)⟩
theorem Mod.grown{A:Nat->Prop}{w w':A_}{row:H_ Nat}(h:w.grownBy w' row)(aP:∀k,row=some k->A k):Mod A w w':=⟨h.os,h.tape,h.output,h.size,fun k hk az=>h.block k hk fun e=>az (aP k e.symm)⟩
theorem Mod.ext{A:Nat->Prop}{w0 w w':A_}(h:Mod A w w')(he:Ext w0 w)(dg:∀k,k<w0.heap.size->¬A k):Ext w0 w' :=
 ⟨h.os.trans he.os,h.tape.trans he.tape,h.output.trans he.output,QB he.size h.size,fun k hk=>(h.block k (AH4 hk he.size) (dg k hk)).trans (he.heap hk)⟩
theorem Mod.obj{A:Nat->Prop}{w w':A_}{k:Nat}{ae:Obj}(h:Mod A w w')(az:¬A k)(hk:w.heap[k]? = some ae):w'.heap[k]? = some ae:=(h.block k (cA hk) az).trans hk
theorem Mod.AW{A B:Nat->Prop}{w w':A_}(h:Mod A w w')(ak:∀k,A k->B k):Mod B w w':=⟨h.os,h.tape,h.output,h.size,fun k hk az=>h.block k hk fun e=>az (ak k e)⟩
def aS{α:Type}(enc:α->C_ B_)(e:F_)(sz base:Nat)(w:A_)(v:B_)(xs:C_ α):Prop:=w.ownsRow base e sz v xs.length (xs.flatMap enc)
section
variable{α:Type}{enc:α->List Value}{e:TypeId}{sz base:Nat}{w w':World}{v:Value}{xs:List α}
theorem aS.nil(enc:α->C_ B_)(e:F_)(sz base:Nat)(w:A_):aS enc e sz base w (.slice none 0 0) []:=World.ownsRow_nil w base e sz
theorem aS.ext(he:Ext w w')(h:aS enc e sz base w v xs):aS enc e sz base w' v xs:=an6 he h
theorem aS.wr{b:Nat}(hw:dy b w w')(ao:b<base)(h:aS enc e sz base w v xs):aS enc e sz base w' v xs :=
 World.ownsRow.kept (row:=some b) h ⟨hw.os,hw.tape,hw.output,by rw[hw.size];exact GA _,fun k _ hk=>hw.block k (fun e=>hk (by rw[e]))⟩ (by
  cases aG:v.ownBlock with
  | none=>exact .inl rfl
  | some k=>exact .inr (by have:=(World.ownsRow.lt h k aG).1;intro e;injection e with e;omega))
theorem aS.lt(h:aS enc e sz base w v xs):∀k,v.ownBlock=some k->base<=k/\k<w.heap.size:=World.ownsRow.lt h
theorem aS.form(h:aS enc e sz base w v xs):∃aQ cap,v = .slice aQ xs.length cap/\xs.length<=cap/\cap<=maxLen:=by
 obtain⟨aQ,cap,h1,I,ab,_⟩:=aa6 h;exact⟨aQ,cap,h1,I,ab⟩
theorem aS.jD(dr:∀x,(enc x).length=sz)(h:aS enc e sz base w v xs):bn sz (Flat enc) w v xs:=an8 dr h
theorem aS.head{aQ:H_ Addr}{n cap:Nat}(dr:∀x,(enc x).length=sz)(h:aS enc e sz base w (.slice aQ n cap) xs)(k:Nat)(hk:k<=xs.length):aS enc e sz base w (.slice aQ k cap) (xs.take k):=by
 have lK:∀(xs:C_ α) (k:Nat),(xs.flatMap enc).take (k*sz)=(xs.take k).flatMap enc:=by
  intro xs
  induction xs with
  | nil=>intro k;simp
  | cons x xs fh =>
   intro k;cases k with
   | zero=>simp
   | succ k =>
    simp only[List.flatMap_cons,List.take_succ_cons];rw[List.take_append,dr,show(k+1)*sz - sz=k*sz from by rw[AH2];omega,fh,LJ (by rw[dr,AH2];omega)]
 have aC:(xs.take k).length=k:=by simp[List.length_take];omega
 refine⟨by rw[aC,x8 dr,aC],?_⟩;rcases h.2 with ⟨h1,I⟩ | ⟨g,pI,cur,h1,I,ab,aH,a8,bE,cj⟩
 .injection h1 with bB aJ a7
  subst bB a7
  have:xs.length=0:=I
  exact .inl ⟨by congr 1;omega,AK⟩
 .injection h1 with bB aJ a7
  subst bB a7;refine .inr ⟨g,cap,cur,by rw[aC],I,ab,AK,a8,bE,?_⟩;rw[aC,<-lK,<-cj,AI8,Nat.min_eq_left (AI9 _ hk)]
theorem _O{P:D_}{cT:B_->A_->Prop}{ty:F_}{b:Nat}{s:B_}{a:Addr}{m c:Nat}{ys:C_ α}{t}(ak:aS enc e sz base w s xs)(dr:∀x,(enc x).length=sz)(an:fi w a (ys.flatMap enc))(hm:m=ys.length)
  (h1:∀y,∀u∈enc y,u.oneCell'=true)(ao:(xs.length+ys.length)*b<=140737488355328)(lp:xs.length+ys.length<=maxLen)(kC:base<=w.heap.size)
  (hk:∀b0 w',aS enc e sz base w' b0 (xs++ys)->w.grownBy w' s.ownBlock->cT b0 w'):ml P ty e sz b s (.slice (some a) m c) w cT t:=by
 subst hm;refine AB1 ak an (x8 dr ys) (fun u hu=>by obtain⟨y,_,bV⟩:=List.mem_flatMap.1 hu;exact h1 y u bV) lp ao kC fun b0 w' ma aK=>hk b0 w' ?_ aK;unfold aS;rw[Ln,AG8];exact ma
end
end ba
end
section
namespace ba
open Go Go.RowKit
section
variable{P:Program}{cT:Value->World->Prop}{α:Type}{enc:α->List Value}{e:TypeId}{sz base vN:Nat}{w:World}{s x:Value}{xs ys:List α}
theorem _j{ty:F_}{b:Nat}{t}(ak:aS enc e sz base w s xs)(ag:aS enc e sz vN w x ys)(dr:∀x,(enc x).length=sz)(h1:∀y,∀u∈enc y,u.oneCell'=true)(ao:(xs.length+ys.length)*b<=140737488355328)
  (lp:xs.length+ys.length<=maxLen)(kC:base<=w.heap.size)(hk:∀b0 w',aS enc e sz base w' b0 (xs++ys)->w.grownBy w' s.ownBlock->cT b0 w'):ml P ty e sz b s x w cT t:=by
 rcases ag.2 with ⟨rfl,af⟩ | ⟨g,cap,cur,rfl,Jd,aK,ab,aH,a8,bE⟩
 .have:ys=[]:=AF9 af
  subst this;rw[AF1] at hk;refine _n fun⟨aB,i,z,U,bI,Cn,B0,Al,JR⟩=>?_;exact⟨ty,s,w,run_append_owned_none w base ty ty e i sz aB U s _ _ ak,hk s w ak ⟨rfl,rfl,rfl,GA _,fun _ _ _=>rfl⟩⟩
 .exact _O ak dr (fun j u aF=>World.ownsRow.cells ag (g:=g) rfl j u aF) rfl h1 ao lp kC hk
theorem AB2{R:A_->Addr->α->Prop}[oV R enc]{ty:F_}{b:Nat}{a:Addr}{m c:Nat}{t}(ak:aS enc e sz base w s xs)(ag:bn sz R w (.slice (some a) m c) ys)(dr:∀x,(enc x).length=sz)(h1:∀y,∀u∈enc y,u.oneCell'=true)
  (ao:(xs.length+ys.length)*b<=140737488355328)(lp:xs.length+ys.length<=maxLen)(kC:base<=w.heap.size)(hk:∀b0 w',aS enc e sz base w' b0 (xs++ys)->w.grownBy w' s.ownBlock->cT b0 w'):ml P ty e sz b s (.slice (some a) m c) w cT t :=
 _O ak dr (bn.flat (enc:=enc) dr (fun a x h=>oV.HP _ a x h) ag) ag.len.1 h1 ao lp kC hk
theorem aS.empty{b:Nat}(ao:base<=b)(h:w.heap[b]? = some (.cells #[] e)):aS enc e sz base w (.slice (some ⟨b,0,none⟩) 0 0) ([]:C_ α):=an5 ao h
theorem aS.low{v:B_}(ao:vN<=base)(h:aS enc e sz base w v xs):aS enc e sz vN w v xs:=an7 ao h
end
end ba
end
section
namespace ba
open Go
def ad(n:Nat):G_:=.tmp n
def cf(n:Int):G_:=.const (.int .i64 n)
def iO(b:Bool):G_:=.const (.bool b)
def bA(d:Nat)(i:xJ):Step:=⟨some d,none,.p i⟩
def dQ(d:Nat)(i:vE):Step:=⟨some d,none,.r i⟩
def bP(d:Nat)(i:sK):Step:=⟨some d,none,.e i⟩
def bY(d:Nat)(i:qP):Step:=⟨some d,none,.c i⟩
def e8(i:sK):Step:=⟨none,none,.e i⟩
def b3(j:Nat)(b:Bool)(s:Step):Step:=⟨s.dst,some (j,b),s.i⟩
def aq(d n:Nat):Step:=⟨some d,none,.p (.np (.tmp n))⟩
def fc(d:Nat)(x:G_):Step:=⟨some d,none,.p (.np x)⟩
def bd(d k n:Nat):Step:=⟨some d,none,.p (.lo k (.tmp n))⟩
def bk(d n:Nat):Step:=⟨some d,none,.r (.ld (.tmp n))⟩
def dq(d k a i:Nat):Step:=⟨some d,none,.p (.mH k (.tmp a) (.tmp i))⟩
def ys(a v:Nat):Step:=⟨none,none,.e (.st (.tmp a) (.tmp v))⟩
def jP(d n:Nat):Step:=⟨some d,none,.p (.Au (.tmp n))⟩
def cu:B_:=.int .i64 0
def ch:B_:=.slice none 0 0
def qO:B_:=.string ⟨#[]⟩
def fR(op:BinOp)(t:F_)(d a b:Nat):Step:=⟨some d,none,.p (.bin op t (.tmp a) (.tmp b))⟩
def gH(op:BinOp)(t:F_)(d a:Nat)(n:Int):Step:=⟨some d,none,.p (.bin op t (.tmp a) (.const (.int .i64 n)))⟩
def qa(d a b:Nat):Step:=⟨some d,none,.p (.pick (.tmp a) (.tmp b) (.const (.bool false)))⟩
def oS(d a b:Nat):Step:=⟨some d,none,.p (.pick (.tmp a) (.const (.bool true)) (.tmp b))⟩
def cO(b7:C_ Step)(b:eN):eN:=.seq (.dv b7) b
def kb(n:Nat)(a b:eN):eN:=.cond (.tmp n) a b
def ig(d k n:Nat):Step:=⟨some d,none,.r (.di k (.tmp n))⟩
def p9(k a v:Nat):Step:=⟨none,none,.e (.gY k (.tmp a) (.tmp v))⟩
def Mc(d n:Nat):Step:=⟨some d,none,.p (.fo (.tmp n))⟩
def C6(d n i:Nat):Step:=⟨some d,none,.p (.ext (.tmp n) i)⟩
def nZ(d:Nat)(f:E_)(l:C_ Nat):Step:=⟨some d,none,.c (.fn f (l.map .tmp))⟩
def vr(n m:Nat)(b:eN):eN:=.seq (.cond (.tmp n) .skip (.exit m)) b
def rS(n:Nat)(s:Step):Step:=b3 n true s
def lW(n:Nat)(s:Step):Step:=b3 n false s
def xw(s:Step)(k:eT):eT:=.take s k
def vq(t:F_)(a b:Nat):eN:=.dv [⟨some a,none,.p (.bin .add t (.tmp b) (.const (.int .i64 1)))⟩,⟨some b,none,.p (.np (.tmp a))⟩]
theorem oh{A B:Prop}(k:B)(h:B->A:=by
 intro q
 try dsimp only[ad,cf,iO,bA,dQ,bP,bY,e8,b3,aq,fc,bd,bk,dq,ys,jP,cu,ch,qO,fR,gH,qa,oS,cO,kb,ig,p9,Mc,C6,nZ,vr,vq,rS,lW,xw,List.map_cons,List.map_nil]
 exact q):A:=h k
end ba
end