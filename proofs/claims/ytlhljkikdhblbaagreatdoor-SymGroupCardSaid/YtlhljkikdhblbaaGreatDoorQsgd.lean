/- Parts. -/
import Derived.Test.YtlhljkikdhblbaaGreatDoorQsgc
set_option linter.all false
set_option maxRecDepth 4000
namespace o
open Go
def inner(p:ee)(s:Scope):Scope:={ s with locals:=p.vars,self:=p.over }
def whole(p:ee)(s:Scope):Int :=
 if isName p.name=false then 6 else if p.over<0\/(s.scalars.length:Int)<p.over then 8 else if p.cb<1\/12<p.cb then 10 else if p.cL.length > 12 then 11 else 0
def rO(s:Scope):C_ Var->Nat->Int×Int
 | [],_=>(0,0)
 | b :: c,a=>if b.over≠0 then (a,9) else if s.vars.any (λd=>decide (d.name=b.name)) then (a,7) else rO s c (a+1)
def mG(p:ee)(s:Scope):Int×Int:=if (vars p.vars s.scalars 4).2≠0 then vars p.vars s.scalars 4 else rO s p.vars 0
def mT(a:Scope)(b:Int)(e:C_ et):C_ et->Nat->Int×Int×Int
 | [],_=>(0,0,0)
 | c :: f,d=>if (jP c b a).2≠0 then (2+(d:Int),(jP c b a).1,(jP c b a).2)
  else if (e.take d).any (λg=>decide (g.name=c.name)) then (2+(d:Int),0,7) else mT a b e f (d+1)
def iH(p:ee)(s:Scope):Int×Int×Int :=
 if whole p s≠0 then (0,0,whole p s) else if (mG p s).2≠0 then (1,(mG p s).1,(mG p s).2) else mT (inner p s) p.cb p.cL p.cL 0
def fw(m:Model):Scope:=⟨m.scalars,m.vars,m.ay,m.procs,[],0⟩
def h0(m:Model)(i:Int):Scope:=match nth m.procs i with | some a=>inner a (fw m) | none=>fw m
def elems(m:Model)(p:ee):Nat:=match nth m.scalars (p.over - 1) with | some a=>if a.size<1\/4<a.size then 0 else a.size.toNat | none=>0
def F3(m:Model)(p:ee):elems m p<=4:=by
 unfold elems;split
 .split
  .omega
  .omega
 .omega
def km(i:Nat)(n:Nat):C_ c7:=(List.range n).map λ(a:Nat)=>(⟨(i:Int),(a:Int)+1⟩:c7)
def jE(i:Nat)(p:ee):C_ c7:=if p.over=0 then [(⟨(i:Int),0⟩:c7)] else []
def kD(m:Model):C_ ee->Nat->C_ c7
 | [],_=>[]
 | b :: c,a=>jE a b++km a (elems m b)++kD m c (a+1)
def insts(m:Model):C_ c7:=kD m m.procs 0
theorem afS(i n:Nat):km i (n+1)=km i n++[⟨(i:Int),(n:Int)+1⟩]:=by unfold km;rw[AI5,AF8];rfl
def aew{m:Model}{k:Nat}(h:k<m.procs.length):kD m (m.procs.drop k) k=jE k m.procs[k]++km k (elems m m.procs[k])++kD m (m.procs.drop (k+1)) (k+1):=by
 rw[AF9 h];rfl
def auX(i:Nat)(p:ee):(jE i p).length<=1:=by unfold jE;split<;>simp
theorem aey(m:Model):∀(b:C_ ee) (a:Nat),(kD m b a).length<=5*b.length
 | [],_=>by simp[kD]
 | c :: d,a=>by
  have:=aey m d (a+1)
  have:=F3 m c
  have:=auX a c
  simp only[kD,List.length_append,List.length_cons,km,List.length_map,List.length_range];omega
def tz(m:Model):(insts m).length<=5*m.procs.length:=aey m _ _
structure c7.of(m:Model)(x:c7):Prop where
 aQ:0<=x.proc
 ab:x.proc<m.procs.length
 elem:0<=x.elem/\x.elem<=4
def auV{m:Model}{i:Nat}(c:i<m.procs.length){n:Nat}(e:n<=4):∀a∈km i n,a.of m:=λa b=>by
 unfold km at b;obtain⟨f,d,rfl⟩:=List.mem_map.1 b
 have:=List.mem_range.1 d
 exact⟨Ah,by simpa using c,by constructor<;>simp<;>omega⟩
def auY{m:Model}{i:Nat}(c:i<m.procs.length){p:ee}:∀b∈jE i p,b.of m:=λb a=>by
 unfold jE at a;split at a
 .rw[AH0] at a;subst a;exact⟨Ah,by simpa using c,Ah⟩
 .cases a
theorem aez{m:Model}:∀(d:C_ ee) (c:Nat),c+d.length<=m.procs.length->∀b∈kD m d c,b.of m
 | [],_,_,b,a=>by simp[kD] at a
 | e :: f,c,g,b,a=>by
  simp only[kD,List.mem_append] at a;simp only[List.length_cons] at g;rcases a with (a | a) | a
  .exact auY AW b a
  .exact auV AW (F3 m e) b a
  .exact aez f (c+1) AW b a
def qM{m:Model}:∀a∈insts m,a.of m:=aez _ _ Ah
def p4(m:Model)(x:c7):Nat:=match nth m.procs x.proc with | some a=>a.cL.length | none=>0
def refsOf(i:Int)(n:Nat):C_ Ref:=(List.range n).map λ(a:Nat)=>(⟨i,(a:Int)⟩:Ref)
def agK(i:Int)(n:Nat):refsOf i (n+1)=refsOf i n++[⟨i,(n:Int)⟩]:=by unfold refsOf;rw[AI5,AF8];rfl
def mI(m:Model):C_ c7->Nat->C_ Ref
 | [],_=>[]
 | b :: c,a=>refsOf a (p4 m b)++mI m c (a+1)
def refs(m:Model):C_ Ref:=mI m (insts m) 0
def awC{m:Model}{l:C_ c7}{k:Nat}(h:k<l.length):mI m (l.drop k) k=refsOf k (p4 m l[k])++mI m (l.drop (k+1)) (k+1):=by
 rw[AF9 h];rfl
def nH(m:Model)(s:Int×c7×C_ Ref)(x:c7):Int×c7×C_ Ref:=((if x≠s.2.1 then s.1+1 else s.1),x,s.2.2++refsOf (if x≠s.2.1 then s.1+1 else s.1) (p4 m x))
structure tP where
 bN:Int
 part:Int
 item:Int
 sub:Int
deriving DecidableEq
def vE:tP:=⟨0,0,0,0⟩
abbrev HR(m:Model):C_ ByteArray:=m.scalars.map (·.name)
abbrev B0(m:Model)(i:Nat):C_ ByteArray:=(m.vars.take i).map (·.name)
abbrev BZ(m:Model)(i:Nat):C_ ByteArray:=(m.ay.take i).map (·.name)
abbrev z5(m:Model)(i:Nat):C_ ByteArray:=(m.procs.take i).map (·.name)
abbrev Us(m:Model)(i:Nat):C_ ByteArray:=(m.props.take i).map (·.name)
abbrev tF(m:Model)(i:Nat):C_ ByteArray:=HR m++B0 m i
abbrev oO(m:Model)(i:Nat):C_ ByteArray:=tF m m.vars.length++BZ m i
abbrev j0(m:Model)(i:Nat):C_ ByteArray:=oO m m.ay.length++z5 m i
abbrev tE(m:Model)(i:Nat):C_ ByteArray:=j0 m m.procs.length++Us m i
def pw(m:Model):Nat->Int:=err 12 (nameAt (·.name) m.vars) (q1 m.vars m.scalars)
def o5(m:Model):Nat->Int:=err 4 (nameAt (·.name) m.ay) (qt m.ay m.scalars)
def kA(m:Model)(i:Nat):Int:=if pw m i≠0 then pw m i else if nameAt (·.name) m.vars i∈tF m i then 7 else 0
def lB(m:Model)(i:Nat):Int:=if o5 m i≠0 then o5 m i else if nameAt (·.name) m.ay i∈oO m i then 7 else 0
def sl(m:Model)(p:ee)(k:Nat):Int:=if nameAt (·.name) p.vars k∈j0 m m.procs.length then 7 else 0
def jr(m:Model)(i:Nat):Int×Int :=
 match m.procs[i]? with
 | none=>(0,0)
 | some a=>if 6<=i then (11,0)
  else if (iH a (h0 m i)).2.2≠0 then ((iH a (h0 m i)).2.2,16*(iH a (h0 m i)).1+(iH a (h0 m i)).2.1)
  else if a.name∈j0 m i then (7,0)
  else if (first a.vars.length (sl m a)).2≠0 then (7,16+(first a.vars.length (sl m a)).1)
  else (0,0)
def l6(m:Model)(p:ee):Int:=if p.over=0 then 1 else size p.over m.scalars
def jG(l:C_ Int):Int:=l.foldl (· + ·) 0
def sf(c:ed):Int:=1+min (max c.cap 0) 4
def pieces(m:Model):Int×Int×Int :=
 (jG (m.procs.map (l6 m)),jG (m.procs.map λa=>l6 m a*a.cL.length),
  jG (m.vars.map (λb=>cells b m.scalars))+jG (m.ay.map sf)+jG (m.procs.map λa=>l6 m a*(1+a.vars.length)))
def oD(m:Model)(i:Nat):Int :=
 match m.props[i]? with
 | none=>0
 | some a=>if 8<=i then 11 else if isName a.name=false then 6 else if a.name∈tE m i then 7
  else if (kind a.expr (fw m)).2≠0 then (kind a.expr (fw m)).2 else if (kind a.expr (fw m)).1≠1 then 9 else 0
def data(m:Model):tP :=
 if (scalars m.scalars).2≠0 then ⟨(scalars m.scalars).2,1,(scalars m.scalars).1,0⟩
 else if (first m.vars.length (kA m)).2≠0 then ⟨(first m.vars.length (kA m)).2,2,(first m.vars.length (kA m)).1,0⟩
 else if (first m.ay.length (lB m)).2≠0 then ⟨(first m.ay.length (lB m)).2,3,(first m.ay.length (lB m)).1,0⟩
 else vE
def oQ(m:Model):tP :=
 if (first m.procs.length λa=>(jr m a).1).2≠0 then ⟨(first m.procs.length λa=>(jr m a).1).2,4,(first m.procs.length λa=>(jr m a).1).1,(jr m (first m.procs.length λa=>(jr m a).1).1.toNat).2⟩
 else if 12<(pieces m).1\/64<(pieces m).2.2 then ⟨11,4,m.procs.length,0⟩ else vE
def rR(m:Model):tP:=if (first m.props.length (oD m)).2≠0 then ⟨(first m.props.length (oD m)).2,5,(first m.props.length (oD m)).1,0⟩ else vE
def check(m:Model):tP:=if (data m).bN≠0 then data m else if (oQ m).bN≠0 then oQ m else rR m
def Ej{α:Type}{f:α->ByteArray}{l:C_ α}{i:Nat}(h:i<l.length):nameAt f l i=f l[i]:=by
 unfold nameAt;rw[List.getElem?_eq_getElem h];rfl
theorem atD{p:Nat->Prop}(h:∃b,p b):∃d,p d/\∀a,p a->d<=a:=by
 obtain⟨b,f⟩:=h
 induction b using Nat.strongRecOn with
 | _ b g =>
  by_cases e:∃a,a<b/\p a
  .obtain⟨a,i,c⟩:=e;exact g a i c
  .exact⟨b,f,λa c=>Nat.le_of_not_lt λj=>e ⟨a,j,c⟩⟩
def vF{n:Nat}{e:Nat->Int}(h:(first n e).2=0):∀a,a<n->e a=0:=by
 intro a c;apply Classical.byContradiction;intro d;obtain⟨j,b,f⟩:=atD (p:=λa=>a<n/\e a≠0) ⟨a,c,d⟩;rw[kd b.1 (λg k=>by
  apply Classical.byContradiction;intro i;exact absurd (f g ⟨AW,i⟩) AW) b.2] at h
 exact b.2 h
def abp{n:Nat}{e:Nat->Int}(h:(first n e).2≠0):∃a,a<n/\(first n e).1=(a:Int)/\(first n e).2=e a:=by
 unfold first at h ⊢
 split at h
 .rename_i a b;rw[List.find?_range_eq_some] at b;exact⟨a,by simpa using b.2.1,rfl,rfl⟩
 .exact absurd rfl h
def abd{α:Type}{f:α->ByteArray}{l:C_ α}{fR:Int}{mo mo':Nat->Int}{k i:Nat}(h:i<k)(j:mo i=mo' i):err fR (nameAt f (l.take k)) mo i=err fR (nameAt f l) mo' i:=by
 have c:∀a,a<k->nameAt f (l.take k) a=nameAt f l a:=λa m=>by unfold nameAt;rw[List.getElem?_take_of_lt m]
 unfold err;rw[c i h,j];have g:(∃a,a<i/\nameAt f (l.take k) a=nameAt f l i)↔(∃a,a<i/\nameAt f l a=nameAt f l i) :=
  ⟨λ⟨a,d,e⟩=>⟨a,d,by rw[<-c a AW];exact e⟩,λ⟨a,d,e⟩=>⟨a,d,by rw[c a AW];exact e⟩⟩
 by_cases b:∃a,a<i/\nameAt f l a=nameAt f l i
 .rw[if_pos (g.2 b),if_pos b]
 .rw[if_neg (λn=>b (g.1 n)),if_neg b]
def ayE{m:Model}{i:Nat}(g:i<m.vars.length)(d:∀a,a<i->pw m a=0):(vars (m.vars.take (i+1)) m.scalars 12).2=pw m i:=by
 unfold vars;have e:(m.vars.take (i+1)).length=i+1:=by simp;omega
 rw[e,show(max 12 0:Int)=12 from rfl,abo (e':=pw m) (λa b=>(abd (mo':=q1 m.vars m.scalars) b (by unfold q1;rw[List.getElem?_take_of_lt b]):_=pw m a))];by_cases c:pw m i=0
 .rw[qv λa b=>by
   by_cases f:a=i
   .subst f;exact c
   .exact d a AW,c]
 .rw[kd AW d c]
def alm{m:Model}{i:Nat}(g:i<m.ay.length)(d:∀a,a<i->o5 m a=0):(ay (m.ay.take (i+1)) m.scalars).2=o5 m i:=by
 unfold ay;have e:(m.ay.take (i+1)).length=i+1:=by simp;omega
 rw[e,abo (e':=o5 m) (λa b=>(abd (mo':=qt m.ay m.scalars) b (by unfold qt;rw[List.getElem?_take_of_lt b]):_=o5 m a))];by_cases c:o5 m i=0
 .rw[qv λa b=>by
   by_cases f:a=i
   .subst f;exact c
   .exact d a AW,c]
 .rw[kd AW d c]
theorem ayB(m:Model):vars m.vars m.scalars 12=first m.vars.length (pw m):=rfl
theorem alj(m:Model):ay m.ay m.scalars=first m.ay.length (o5 m):=rfl
def O2{m:Model}{i:Nat}(h:kA m i=0):pw m i=0:=by
 apply Classical.byContradiction;intro a;unfold kA at h;rw[if_pos a] at h;exact a h
def JG{m:Model}{i:Nat}(h:lB m i=0):o5 m i=0:=by
 apply Classical.byContradiction;intro a;unfold lB at h;rw[if_pos a] at h;exact a h
def abf{m:Model}{i:Nat}(h:kA m i=0):i<12:=by
 have h:=O2 h;unfold pw err at h;split at h
 .cases h
 .omega
def amf{m:Model}{i:Nat}(h:lB m i=0):i<4:=by
 have h:=JG h;unfold o5 err at h;split at h
 .cases h
 .omega
def J8{m:Model}{i:Nat}(a:i<m.procs.length)(h:(jr m i).1=0):i<6:=by
 unfold jr at h;rw[List.getElem?_eq_getElem a] at h;simp only at h;split at h
 .cases h
 .omega
def amA{m:Model}{i:Nat}(a:i<m.props.length)(h:oD m i=0):i<8:=by
 unfold oD at h;rw[List.getElem?_eq_getElem a] at h;simp only at h;split at h
 .cases h
 .omega
def ahu{m:Model}(h:(scalars m.scalars).2=0):m.scalars.length<=2:=by
 unfold scalars at h
 have:=vF h
 apply Classical.byContradiction;intro b;have a:=this 2 AW;unfold err at a;rw[if_pos AW] at a;cases a
def size_le(k:Int)(s:C_ Scalar):0<=size k s/\size k s<=4:=by
 unfold size;split
 .split<;>omega
 .omega
def sg(v:Var)(s:C_ Scalar):0<=cells v s/\cells v s<=4:=by
 have:=size_le v.over s
 unfold cells;split<;>omega
def HY(m:Model)(p:ee):0<=l6 m p/\l6 m p<=4:=by
 have:=size_le p.over m.scalars
 unfold l6;split<;>omega
def Qv(c:ed):1<=sf c/\sf c<=5:=by unfold sf;omega
def axY(l:C_ Int)(x:Int):jG (l++[x])=jG l+x:=by unfold jG;simp
def Iu{α:Type}(f:α->Int)(l:C_ α){k:Nat}(h:k<l.length):jG ((l.take (k+1)).map f)=jG ((l.take k).map f)+f l[k]:=by
 rw[NZ h,AF8,AH9,List.map_nil,axY]
def It{α:Type}(f:α->Int)(B:Int)(l:0<=B):∀(a:C_ α),(∀b∈a,0<=f b/\f b<=B)->0<=jG (a.map f)/\jG (a.map f)<=B*a.length:=by
 have e:∀(a:C_ α) (c:Int),(∀b∈a,0<=f b/\f b<=B)->c<=(a.map f).foldl (· + ·) c/\(a.map f).foldl (· + ·) c<=c+B*a.length:=by
  intro a
  induction a with
  | nil=>intro c _;simp
  | cons b m g =>
   intro c d;have n:=d b Ah;obtain⟨h,i⟩:=g (c+f b) λj k=>d j (by simp[k]);simp only[List.map_cons,List.foldl_cons,List.length_cons];rw[Int.natCast_succ,Int.mul_add];omega
 intro a d;obtain⟨h,i⟩:=e a 0 d;unfold jG;omega
end o
namespace o
def aaD{m:Model}(h:(scalars m.scalars).2≠0):data m=⟨(scalars m.scalars).2,1,(scalars m.scalars).1,0⟩:=by unfold data;rw[if_pos h]
def JR{m:Model}(b:(scalars m.scalars).2=0){i:Nat}(c:i<m.vars.length)(d:∀a,a<i->kA m a=0)(h:kA m i≠0):data m=⟨kA m i,2,i,0⟩:=by
 unfold data;rw[if_neg (by simpa using b),kd c d h,if_pos h]
def JQ{m:Model}(b:(scalars m.scalars).2=0)(c:∀a,a<m.vars.length->kA m a=0){i:Nat}(d:i<m.ay.length)(e:∀a,a<i->lB m a=0)(h:lB m i≠0):data m=⟨lB m i,3,i,0⟩:=by
 unfold data;rw[if_neg (by simpa using b),qv c,if_neg Ah,kd d e h,if_pos h]
def aaC{m:Model}(b:(scalars m.scalars).2=0)(c:∀a,a<m.vars.length->kA m a=0)(d:∀a,a<m.ay.length->lB m a=0):data m=vE:=by
 unfold data;rw[if_neg (by simpa using b),qv c,if_neg Ah,qv d,if_neg Ah]
def QK{m:Model}(h:(data m).bN=0):(scalars m.scalars).2=0/\(∀a,a<m.vars.length->kA m a=0)/\(∀a,a<m.ay.length->lB m a=0):=by
 unfold data at h;by_cases b:(scalars m.scalars).2=0
 .rw[if_neg (by simpa using b)] at h;by_cases c:(first m.vars.length (kA m)).2=0
  .rw[if_neg (by simpa using c)] at h;by_cases d:(first m.ay.length (lB m)).2=0
   .exact⟨b,vF c,vF d⟩
   .rw[if_pos d] at h;exact absurd h d
  .rw[if_pos c] at h;exact absurd h c
 .rw[if_pos b] at h;exact absurd h b
def FY{m:Model}(h:(data m).bN=0):m.scalars.length<=2/\m.vars.length<=12/\m.ay.length<=4:=by
 obtain⟨a,b,c⟩:=QK h;refine⟨ahu a,?_,?_⟩
 .apply Classical.byContradiction;intro d
  have:=abf (b 12 AW)
  omega
 .apply Classical.byContradiction;intro d
  have:=amf (c 4 AW)
  omega
def H3{m:Model}{i:Nat}(b:i<m.procs.length)(c:∀a,a<i->(jr m a).1=0)(h:(jr m i).1≠0):oQ m=⟨(jr m i).1,4,i,(jr m i).2⟩:=by
 unfold oQ;rw[kd (e:=λi=>(jr m i).1) b c h];simp only;rw[if_pos h];simp
def U1{m:Model}(b:∀a,a<m.procs.length->(jr m a).1=0):oQ m=if 12<(pieces m).1\/64<(pieces m).2.2 then ⟨11,4,m.procs.length,0⟩ else vE:=by
 unfold oQ;rw[qv (e:=λc=>(jr m c).1) b,if_neg Ah]
def N9{m:Model}(h:(oQ m).bN=0):(∀b,b<m.procs.length->(jr m b).1=0)/\(pieces m).1<=12/\(pieces m).2.2<=64:=by
 by_cases a:(first m.procs.length λd=>(jr m d).1).2=0
 .have c:=vF a;rw[U1 c] at h;refine⟨c,?_⟩;by_cases e:12<(pieces m).1\/64<(pieces m).2.2
  .rw[if_pos e] at h;cases h
  .omega
 .unfold oQ at h;rw[if_pos a] at h;exact absurd h a
def agf{m:Model}{i:Nat}(b:i<m.props.length)(c:∀a,a<i->oD m a=0)(h:oD m i≠0):rR m=⟨oD m i,5,i,0⟩:=by
 unfold rR;rw[kd b c h,if_pos h]
def U2{m:Model}(b:∀a,a<m.props.length->oD m a=0):rR m=vE:=by
 unfold rR;rw[qv b,if_neg Ah]
def avz{m:Model}(h:(rR m).bN=0):∀b,b<m.props.length->oD m b=0:=by
 by_cases a:(first m.props.length (oD m)).2=0
 .exact vF a
 .unfold rR at h;rw[if_pos a] at h;exact absurd h a
def EM{α:Type}(f:α->ByteArray)(l:C_ α){k:Nat}(h:k<l.length):(l.take (k+1)).map f=(l.take k).map f++[f l[k]]:=by
 rw[NZ h,AF8];rfl
def Q0{m:Model}{i:Nat}(a:i<m.procs.length):jr m i=if 6<=i then (11,0)
  else if (iH m.procs[i] (h0 m i)).2.2≠0 then ((iH m.procs[i] (h0 m i)).2.2,16*(iH m.procs[i] (h0 m i)).1+(iH m.procs[i] (h0 m i)).2.1)
  else if m.procs[i].name∈j0 m i then (7,0)
  else if (first m.procs[i].vars.length (sl m m.procs[i])).2≠0 then (7,16+(first m.procs[i].vars.length (sl m m.procs[i])).1)
  else (0,0):=by
 unfold jr;rw[List.getElem?_eq_getElem a]
def aa8{m:Model}{i:Nat}(a:i<m.props.length):oD m i=if 8<=i then 11 else if isName m.props[i].name=false then 6 else if m.props[i].name∈tE m i then 7
  else if (kind m.props[i].expr (fw m)).2≠0 then (kind m.props[i].expr (fw m)).2 else if (kind m.props[i].expr (fw m)).1≠1 then 9 else 0:=by
 unfold oD;rw[List.getElem?_eq_getElem a]
def ani(n:Nat)(e:Nat->Int):0<=(first n e).1/\(first n e).1<=n:=by
 unfold first
 split
 .rename_i b a;rw[List.find?_range_eq_some] at a
  have:=a.2.1
  simp at this;constructor<;>simp<;>omega
 .simp
theorem afh(s:Scope):∀(b:C_ Var) (a:Nat),0<=(rO s b a).1/\(rO s b a).1<=a+b.length
 | [],a=>by first | (simp[rO];done) | (simp[rO];omega)
 | d :: c,a=>by
  have:=afh s c (a+1)
  unfold rO;split
  .simp;omega
  .split
   .simp;omega
   .simp only[List.length_cons];omega
def avl(p:ee)(s:Scope):0<=(mG p s).1/\(mG p s).1<=p.vars.length:=by
 unfold mG;split
 .exact ani _ _
 .have:=afh s p.vars 0;omega
theorem Zn(s:Scope):∀(c:C_ Act) (a:Nat) (b:Bool),0<=(mm s c a b).1/\(mm s c a b).1<=2+a+c.length
 | [],a,b=>by first | (simp[mm];done) | (simp[mm];omega)
 | d :: e,a,b=>by
  have:=Zn s e (a+1) (b||h2 d)
  unfold mm;split
  .simp;omega
  .split
   .simp;omega
   .simp only[List.length_cons];omega
def aly(c:et)(a:Int)(s:Scope):0<=(jP c a s).1/\(jP c a s).1<=2+c.b6.length:=by
 unfold jP;split
 .simp;omega
 .split
  .simp;omega
  .have:=Zn s c.b6 0 false;omega
theorem aao(b:Scope)(c:Int)(e:C_ et)(B:Nat):∀(d:C_ et) (a:Nat),(∀f∈d,f.b6.length<=B)->0<=(mT b c e d a).1/\(mT b c e d a).1<=2+a+d.length/\0<=(mT b c e d a).2.1/\(mT b c e d a).2.1<=2+B
 | [],a,_=>by first | (simp[mT];done) | (simp[mT];omega)
 | f :: h,a,g=>by
  have k:=aao b c e B h (a+1) λi j=>g i (by simp[j]);have l:=aly f c b;have m:=g f Ah;unfold mT;split
  .simp only[List.length_cons];omega
  .split
   .simp only[List.length_cons];omega
   .simp only[List.length_cons];omega
def age(p:ee)(s:Scope)(B:Nat)(h:∀a∈p.cL,a.b6.length<=B):0<=(iH p s).1/\(iH p s).1<=2+p.cL.length/\0<=(iH p s).2.1/\(iH p s).2.1<=2+B+p.vars.length:=by
 unfold iH;split
 .simp;omega
 .split
  .have:=avl p s
   simp only;omega
  .have:=aao (inner p s) p.cb p.cL B p.cL 0 h
   omega
def UZ{p:ee}{s:Scope}(h:(iH p s).2.2=0):p.vars.length<=4/\p.cL.length<=12/\whole p s=0/\(mG p s).2=0/\(mT (inner p s) p.cb p.cL p.cL 0).2.2=0:=by
 unfold iH at h;by_cases a:whole p s=0
 .rw[if_neg (by simpa using a)] at h;by_cases b:(mG p s).2=0
  .rw[if_neg (by simpa using b)] at h;refine⟨?_,?_,a,b,h⟩
   .have e:(vars p.vars s.scalars 4).2=0:=by
     apply Classical.byContradiction;intro c;unfold mG at b;rw[if_pos c] at b;exact c b
    apply Classical.byContradiction;intro c;have d:=vF e 4 AW;unfold err at d;rw[if_pos Ae] at d;cases d
   .apply Classical.byContradiction;intro c;unfold whole at a;split at a
    .cases a
    .split at a
     .cases a
     .split at a
      .cases a
      .rw[if_pos AW] at a;cases a
  .rw[if_pos b] at h;exact absurd h b
 .rw[if_pos a] at h;exact absurd h a
def Dg{m:Model}{i:Nat}(b:i<m.procs.length)(h:(jr m i).1=0):i<6/\(iH m.procs[i] (h0 m i)).2.2=0/\¬m.procs[i].name∈j0 m i/\(first m.procs[i].vars.length (sl m m.procs[i])).2=0:=by
 rw[Q0 b] at h;split at h
 .cases h
 .split at h
  .rename_i c a;exact absurd h a
  .split at h
   .cases h
   .split at h
    .cases h
    .rename_i c a d e;exact⟨AW,by simpa using a,d,by simpa using e⟩
end o
namespace o
open Go
structure ec where
 aQ:Int
 ab:Int
 kind:Int
structure Cell where
 sort:Int
 jm:Int
 place:Int
 aQ:Int
 ab:Int
 kind:Int
structure yJ where
 vars:List Int
 ay:List Int
 insts:List Int
 cells:Int
 aQ:List Int
 ab:List Int
def kindOf(k:Int):Int:=if k=0 then 0 else k+1
def dM(a b c:Int)(s:C_ Scalar):ec:=if a=0 then ⟨b,c,0⟩ else ⟨0,size a s,a+1⟩
theorem w3(v:Var)(s:C_ Scalar):dM v.scalar v.aQ v.ab s=⟨(bounds v s).1,(bounds v s).2,kindOf v.scalar⟩:=by
 unfold dM bounds kindOf;by_cases a:v.scalar=0
 .rw[if_pos a,if_pos a,if_pos a]
 .rw[if_neg a,if_neg a,if_neg a]
def q0(s:C_ Scalar)(v:Var):C_ ec:=List.replicate (cells v s).toNat (dM v.scalar v.aQ v.ab s)
def kc(s:C_ Scalar)(c:ed):ec:=dM c.scalar (min c.aQ 0) (max c.ab 0) s
def iM(s:C_ Scalar)(c:ed):C_ ec:=⟨0,c.cap,0⟩ :: List.replicate c.cap.toNat (kc s c)
def kX(s:C_ Scalar)(p:ee):C_ ec:=⟨0,p.cb - 1,0⟩ :: p.vars.map λa=>dM a.scalar a.aQ a.ab s
def kj(m:Model)(x:c7):C_ ec:=match nth m.procs x.proc with | some a=>kX m.scalars a | none=>[]
def fv(b c:Int):C_ ec->Nat->C_ Cell
 | [],_=>[]
 | a :: e,d=>⟨b,c,d,a.aQ,a.ab,a.kind⟩ :: fv b c e (d+1)
def cellsOf(a:Int):C_ (C_ ec)->Nat->C_ Cell
 | [],_=>[]
 | c :: d,b=>fv a b c 0++cellsOf a d (b+1)
def total(a:C_ (C_ ec)):Nat:=(a.map List.length).sum
def gV(n:Nat):C_ (C_ ec)->C_ Int
 | []=>[]
 | a :: b=>(n:Int) :: gV (n+a.length) b
def bU(m:Model):C_ (C_ ec):=m.vars.map (q0 m.scalars)
def cn(m:Model):C_ (C_ ec):=m.ay.map (iM m.scalars)
def dH(m:Model):C_ (C_ ec):=(insts m).map (kj m)
def bD(m:Model):C_ Cell:=cellsOf 1 (bU m) 0++cellsOf 2 (cn m) 0++cellsOf 3 (dH m) 0
def BS(V C cE:C_ Int)(cs:C_ Cell):yJ:=⟨V,C,cE,cs.length,cs.map (·.aQ),cs.map (·.ab)⟩
def layout(m:Model):yJ:=BS (gV 0 (bU m)) (gV (total (bU m)) (cn m)) (gV (total (bU m)+total (cn m)) (dH m)) (bD m)
def UB:yJ:=⟨[],[],[],0,[],[]⟩
def lyz(m:Model):yJ:=if (check m).bN=0 then layout m else UB
def kinds(m:Model):C_ Int:=if (check m).bN=0 then (bD m).map (·.kind) else []
theorem rN(s w:Int):∀(a:C_ ec) (b:Nat),(fv s w a b).length=a.length
 | [],_=>rfl
 | _ :: c,b=>by simp[fv,rN s w c]
theorem T2(s w:Int)(b:ec):∀(c:C_ ec) (a:Nat),fv s w (c++[b]) a=fv s w c a++[⟨s,w,(a+c.length:Nat),b.aQ,b.ab,b.kind⟩]
 | [],a=>by simp[fv]
 | e :: d,a=>by
  simp only[List.cons_append,fv,T2 s w b d,List.length_cons];rw[show a+1+d.length=a+(d.length+1) from AW]
theorem asT{s w:Int}{l:C_ ec}{k:Nat}(h:k<l.length):fv s w (l.take (k+1)) 0=fv s w (l.take k) 0++[⟨s,w,k,l[k].aQ,l[k].ab,l[k].kind⟩]:=by
 rw[NZ h,T2];simp[List.length_take,Nat.min_eq_left (Nat.le_of_lt h)]
theorem kb(s:Int):∀(a:C_ (C_ ec)) (b:Nat),(cellsOf s a b).length=total a
 | [],_=>rfl
 | d :: c,b=>by simp[cellsOf,rN,kb s c,total]
theorem AR(s:Int)(x:C_ ec):∀(b:C_ (C_ ec)) (a:Nat),cellsOf s (b++[x]) a=cellsOf s b a++fv s (a+b.length:Nat) x 0
 | [],a=>by simp[cellsOf]
 | d :: c,a=>by
  simp only[List.cons_append,cellsOf,AR s x c,List.length_cons,List.append_assoc];rw[show a+1+c.length=a+(c.length+1) from AW]
def ayc(a:C_ (C_ ec))(x:C_ ec):total (a++[x])=total a+x.length:=by simp[total]
theorem OK(x:C_ ec):∀(b:C_ (C_ ec)) (a:Nat),gV a (b++[x])=gV a b++[((a+total b:Nat):Int)]
 | [],a=>by simp[gV,total]
 | d :: c,a=>by
  simp only[List.cons_append,gV,OK x c,total,List.map_cons,List.sum_cons];rw[show a+d.length+(c.map List.length).sum=a+(d.length+(c.map List.length).sum) from AW]
theorem rU(n:Nat):∀(a:C_ (C_ ec)),(gV n a).length=a.length:=by
 intro a
 induction a generalizing n with
 | nil=>rfl
 | cons c d b=>simp[gV,b]
theorem JE(s:Int):∀(f:C_ (C_ ec)) (c i a:Nat) (j:a<(cellsOf s f c).length),∃d e:Nat,∃(k:d<f.length) (l:e<f[d].length),(cellsOf s f c)[a]=⟨s,(c+d:Nat),e,f[d][e].aQ,f[d][e].ab,f[d][e].kind⟩/\(gV i f)[d]? = some (((i+a - e:Nat)):Int)/\e<=a
 | [],c,i,a,g=>by simp[cellsOf] at g
 | b :: m,c,i,a,g=>by
  simp only[cellsOf,List.length_append,rN] at g;by_cases j:a<b.length
  .refine⟨0,a,Ah,by simpa using j,?_,by simp[gV],Fy _⟩;have n:∀(b:C_ ec) (h a:Nat) (g:a<b.length) (p:a<(fv s c b h).length),(fv s c b h)[a]=⟨s,c,(h+a:Nat),b[a].aQ,b[a].ab,b[a].kind⟩:=by
    intro b
    induction b with
    | nil=>intro h a g;simp at g
    | cons u m q =>
     intro h a g p;cases a with
     | zero=>simp[fv]
     | succ a =>
      simp only[fv,List.getElem_cons_succ];rw[q (h+1) a (by simpa using g)];rw[show h+1+a=h+(a+1) from AW]
   simp only[cellsOf];rw[AJ3 (by rw[rN];exact j),n b 0 a j];simp
  .obtain⟨d,e,k,l,r,t,v⟩:=JE s m (c+1) (i+b.length) (a - b.length) AW;refine⟨d+1,e,by simpa using k,by simpa using l,?_,?_,AW⟩
   .simp only[cellsOf];rw[AJ4 (by rw[rN];omega)];simp only[rN];rw[r];simp only[List.getElem_cons_succ];rw[show c+1+d=c+(d+1) from AW]
   .simp only[gV,List.getElem?_cons_succ];rw[t];congr 2;omega
def zX(m:Model):(bD m).length=total (bU m)+total (cn m)+total (dH m):=by simp[bD,kb,Nat.add_assoc]
def jQ(s:Int):C_ Cell->Nat->C_ Int
 | [],_=>[]
 | a :: c,b=>(if a.place=0/\a.sort=s then [(b:Int)] else [])++jQ s c (b+1)
theorem Gc(s:Int):∀(c b:C_ Cell) (a:Nat),jQ s (c++b) a=jQ s c a++jQ s b (a+c.length)
 | [],b,a=>by simp[jQ]
 | e :: d,b,a=>by
  simp only[List.cons_append,jQ,Gc s d b,List.append_assoc,List.length_cons];rw[show a+1+d.length=a+(d.length+1) from AW]
theorem abr(s c w:Int):∀(d:C_ ec) (a b:Nat),0<a->jQ s (fv c w d a) b=[]
 | [],_,_,_=>rfl
 | f :: e,a,b,g=>by
  simp only[fv,jQ];rw[if_neg (by simp;omega),abr s c w e (a+1) (b+1) AW];rfl
theorem Km(s:Int):∀(d:C_ (C_ ec)) (c a:Nat),(∀b∈d,b≠[])->jQ s (cellsOf s d c) a=gV a d
 | [],_,_,_=>rfl
 | [] :: f,c,a,e=>absurd rfl (e [] Ah)
 | (h :: b) :: f,c,a,e=>by
  simp only[cellsOf,fv,List.cons_append,jQ,Gc];rw[if_pos Ah,abr s s c b 1 (a+1) AW,Km s f (c+1) _ (λb g=>e b (by simp[g]))];simp only[List.nil_append,gV,rN,List.singleton_append,List.length_cons];rw[show a+1+b.length=a+(b.length+1) from AW]
theorem A1(s b:Int)(f:s≠b):∀(h:C_ (C_ ec)) (d a:Nat),jQ s (cellsOf b h d) a=[]
 | [],_,_=>rfl
 | c :: g,d,a=>by
  have i:∀(c:C_ ec) (e a:Nat),jQ s (fv b d c e) a=[]:=by
   intro c
   induction c with
   | nil=>intro e a;rfl
   | cons k g j =>
    intro e a;simp only[fv,jQ];rw[if_neg (by simp;exact λ_=>Ne.symm f),j];rfl
  simp only[cellsOf,Gc,i,A1 s b f g,List.append_nil]
theorem N7{α:Type}[DecidableEq α]:∀(a b:C_ α),a.Nodup->b.length=a.length->(∀c∈a,c∈b)->b.Perm a
 | [],b,_,d,_=>by rw[AG1 d]
 | e :: a,b,f,d,g=>by
  have j:=g e (AG3 ..);have h:=List.perm_cons_erase j;have k:=h.length_eq;rw[List.nodup_cons] at f;simp only[List.length_cons] at d k;exact h.trans ((N7 a _ f.2 AW λc i=>(List.mem_erase_of_ne (λ(l:c=e)=>f.1 (l ▸ i))).2 (g c (AG6 _ i))).cons e)
structure eN(s:List Scalar)(f b:Int->Int->Int):Prop where
 kC:∀k e,1<=e->e<=size k s->1<=f k e/\f k e<=size k s
 out:∀k e,e<1\/size k s<e->f k e=e
 ar9:∀k e,1<=e->e<=size k s->1<=b k e/\b k e<=size k s
 auT:∀k e,e<1\/size k s<e->b k e=e
 l:∀k e,b k (f k e)=e
 r:∀k e,f k (b k e)=e
theorem eN.symm{s:C_ Scalar}{f b:Int->Int->Int}(h:eN s f b):eN s b f:=⟨h.ar9,h.auT,h.kC,h.out,h.r,h.l⟩
def eN.inj{s:C_ Scalar}{f b:Int->Int->Int}(h:eN s f b){k x y:Int}(e:f k x=f k y):x=y:=by rw[<-h.l k x,e,h.l]
def fl(f:Int->Int->Int)(k v:Int):Int:=if 2<=k then f (k - 1) v else v
def Ac(f:Int->Int->Int){k:Int}(v:Int)(h:k<2):fl f k v=v:=by unfold fl;rw[if_neg AW]
theorem Cb{s:C_ Scalar}{f b:Int->Int->Int}(h:eN s f b)(k:Int):fl f k 0=0:=by
 unfold fl;split
 .exact h.out _ _ (.inl AW)
 .rfl
def agO{s:C_ Scalar}{f b:Int->Int->Int}(h:eN s f b){k x y:Int}(e:fl f k x=fl f k y):x=y:=by
 unfold fl at e;split at e
 .exact h.inj e
 .exact e
theorem awH{s:C_ Scalar}{f b:Int->Int->Int}(h:eN s f b)(k x:Int):fl b k (fl f k x)=x:=by
 unfold fl;split
 .exact h.l _ _
 .rfl
def Ib{s:C_ Scalar}{f b:Int->Int->Int}(h:eN s f b)(a c d n:Int):((dM a c d s).aQ<=fl f (dM a c d s).kind n↔(dM a c d s).aQ<=n)/\(fl f (dM a c d s).kind n<=(dM a c d s).ab↔n<=(dM a c d s).ab):=by
 unfold dM;split
 .rw[Ac _ _ (show(0:Int)<2 by decide)];exact⟨Iff.rfl,Iff.rfl⟩
 .rename_i g;simp only;unfold fl;rw[show a+1 - 1=a from AW];split
  .by_cases e:n<1\/size a s<n
   .rw[h.out _ _ e];exact⟨Iff.rfl,Iff.rfl⟩
   .have:=h.kC a n AW AW
    omega
  .exact⟨Iff.rfl,Iff.rfl⟩
structure E9(s:Scope)(f:Int->Int->Int)(v w:Env):Prop where
 plain:∀(i:Nat) (x:Var),s.vars[i]? = some x->x.over=0->∃l r,v.vars[i]? = some l/\w.vars[i]? = some r/\r[0]? = l[0]?.map (fl f (kindOf x.scalar))
 over:∀(i:Nat) (x:Var),s.vars[i]? = some x->x.over≠0->∃l r,v.vars[i]? = some l/\w.vars[i]? = some r/\∀e:Int,nth r (f x.over e - 1)=(nth l (e - 1)).map (fl f (kindOf x.scalar))
 locals:∀(i:Nat) (x:Var),s.locals[i]? = some x->w.locals[i]? = v.locals[i]?.map (fl f (kindOf x.scalar))
 lens:w.lens=v.lens
 at_:w.at_=v.at_
 self:w.self=fl f (kindOf s.self) v.self
def UE{α:Type}{l:C_ α}{n:Int}{x:α}(h:nth l n=some x):0<=n/\l[n.toNat]? = some x:=by
 unfold nth at h;by_cases a:0<=n
 .rw[if_pos a] at h;exact⟨a,h⟩
 .rw[if_neg a] at h;cases h
theorem TW{n:Int}{s:Scope}(h:(h9 n s).2=true):(h9 n s).1=kindOf n/\0<=n:=by
 unfold h9 at h ⊢;unfold kindOf;by_cases a:n=0
 .subst a;simp
 .rw[if_neg a] at h ⊢;by_cases b:n<0\/(s.scalars.length:Int)<n
  .rw[if_pos b] at h;cases h
  .rw[if_neg b,if_neg a];simp only;omega
theorem TZ{l:C_ Var}{n:Int}{s:Scope}(h:(fQ l n s).2.2=true):∃a,l[n.toNat]? = some a/\0<=n/\fQ l n s=(kindOf a.scalar,kindOf a.over,true)/\0<=a.over:=by
 unfold fQ at h ⊢;cases b:nth l n with
 | none=>rw[b] at h;cases h
 | some a =>
  rw[b] at h;simp only[Bool.and_eq_true] at h;obtain⟨c,d⟩:=UE b;exact⟨a,d,c,by simp only[h.1,h.2,Bool.and_self,(TW h.1).1,(TW h.2).1],(TW h.2).2⟩
def asC{n:Int}(h:0<=n):kindOf n=0↔n=0:=by unfold kindOf;split<;>omega
def aeP{n:Int}(h:0<n):kindOf n - 1=n/\2<=kindOf n:=by unfold kindOf;rw[if_neg AW];omega
def as5{x:Node}(b:0<=ej x.op)(a:gS x.op=none):x.op=1\/x.op=2\/x.op=3\/x.op=4\/x.op=5\/x.op=6\/x.op=7\/x.op=8:=by
 by_cases c:9<=x.op/\x.op<=19
 .unfold gS at a
  repeat' split at a
  all_goals first | omega | cases a
 .unfold ej at b
  repeat' split at b
  all_goals omega
def aix{l r:C_ Int}{n:Int}{g:Int->Int}(b:g 0=0)(h:0<=n->r[n.toNat]? = l[n.toNat]?.map g):gW r n=(g (gW l n).1,(gW l n).2):=by
 unfold gW nth;by_cases a:0<=n
 .rw[if_pos a,if_pos a,h a];cases l[n.toNat]? with
  | none=>simp[b]
  | some c=>rfl
 .rw[if_neg a,if_neg a];simp[b]
def as6{s:Scope}{f b:Int->Int->Int}{v w:Env}(N:eN s.scalars f b)(l:E9 s f v w){x:Node}{i tv:Int}(O:0<=ej x.op)(P:gS x.op=none)(a:(hf x s i).2=0) :
  fm x w (if x.op=3 then fl f i tv else tv)=(fl f (hf x s i).1 (fm x v tv).1,(fm x v tv).2):=by
 have r:=Cb N;rcases as5 O P with e | e | e | e | e | e | e | e
 .unfold hf at a ⊢;unfold fm;rw[if_pos e] at a ⊢;rw[if_pos e];by_cases hw:within x.n=true
  .rw[if_pos hw,if_pos hw,if_pos e];rfl
  .rw[if_neg hw] at a;cases a
 .have k:x.op≠1:=AW
  have y:¬x.op=3:=AW
  have z:¬x.op=4:=AW
  have c:∀v tv,fm x v tv=(match nth v.vars x.n with | some j=>gW j 0 | none=>(0,8)):=λv tv=>by unfold fm;rw[if_neg k,if_pos e];rfl
  rw[c,c];unfold hf at a ⊢;rw[if_neg k,if_pos (show x.op=2\/x.op=3\/x.op=4 by omega)] at a ⊢;simp only[z,if_false] at a ⊢;by_cases d:(fQ s.vars x.n s).2.2=false
  .rw[if_pos d] at a;cases a
  rw[if_neg d] at a ⊢;obtain⟨g,p,m,q,A⟩:=TZ (by simpa using d);rw[q] at a ⊢;simp only[y,false_and,false_or,ne_eq,not_false_eq_true,true_and] at a ⊢;by_cases h:¬kindOf g.over=0
  .rw[if_pos h] at a;cases a
  rw[if_neg h];have B:g.over=0:=(asC A).1 (Classical.not_not.1 h);obtain⟨j,C,G,H,I⟩:=l.plain _ _ p B;have J:nth v.vars x.n=some j:=by unfold nth;rw[if_pos m,G]
  have K:nth w.vars x.n=some C:=by unfold nth;rw[if_pos m,H]
  rw[J,K];simp only;exact aix (r _) λ_=>I
 .have k:x.op≠1:=AW
  have L:¬x.op=2:=AW
  have z:¬x.op=4:=AW
  have c:∀v tv,fm x v tv=(match nth v.vars x.n with | some j=>(match nth j (tv - 1) with | some M=>(M,0) | none=>(0,10)) | none=>(0,8)):=λv tv=>by unfold fm;rw[if_neg k,if_neg L,if_pos e];rfl
  rw[c,c,if_pos e];unfold hf at a ⊢;rw[if_neg k,if_pos (show x.op=2\/x.op=3\/x.op=4 by omega)] at a ⊢;simp only[z,if_false] at a ⊢;by_cases d:(fQ s.vars x.n s).2.2=false
  .rw[if_pos d] at a;cases a
  rw[if_neg d] at a ⊢;obtain⟨g,p,m,q,A⟩:=TZ (by simpa using d);rw[q] at a ⊢;simp only[e,ne_eq,not_true_eq_false,false_and,or_false,true_and] at a ⊢;by_cases h:kindOf g.over=0\/¬i=kindOf g.over
  .rw[if_pos h] at a;cases a
  rw[if_neg h];have B:g.over≠0:=λQ=>h (.inl (by rw[Q];rfl));have S:i=kindOf g.over:=Classical.byContradiction λt=>h (.inr t);obtain⟨j,C,G,H,I⟩:=l.over _ _ p B;have J:nth v.vars x.n=some j:=by unfold nth;rw[if_pos m,G]
  have K:nth w.vars x.n=some C:=by unfold nth;rw[if_pos m,H]
  have U:fl f i tv=f g.over tv:=by
   obtain⟨V,W⟩:=aeP (n:=g.over) AW;unfold fl;rw[S,if_pos W,V]
  rw[J,K,U];simp only;rw[I];cases nth j (tv - 1) with
  | none=>simp[r]
  | some M=>rfl
 .have k:x.op≠1:=AW
  have L:¬x.op=2:=AW
  have y:¬x.op=3:=AW
  have c:∀v tv,fm x v tv=gW v.locals x.n:=λv tv=>by unfold fm;rw[if_neg k,if_neg L,if_neg y,if_pos e]
  rw[c,c];unfold hf at a ⊢;rw[if_neg k,if_pos (show x.op=2\/x.op=3\/x.op=4 by omega)] at a ⊢;simp only[e,if_true] at a ⊢;by_cases d:(fQ s.locals x.n s).2.2=false
  .rw[if_pos d] at a;cases a
  rw[if_neg d] at a ⊢;obtain⟨g,p,m,q,A⟩:=TZ (by simpa using d);rw[q] at a ⊢;have X:¬((4:Int)=3):=AW
  simp only[X,false_and,false_or,ne_eq,not_false_eq_true,true_and] at a ⊢;by_cases h:¬kindOf g.over=0
  .rw[if_pos h] at a;cases a
  rw[if_neg h];exact aix (r _) λ_=>l.locals _ _ p
 .have n:hf x s i=kU x s:=by unfold hf;rw[if_neg AW,if_neg AW]
  rw[n] at a ⊢;have c:∀v tv,fm x v tv=(v.self,0):=λv tv=>by unfold fm;rw[if_neg AW,if_neg AW,if_neg AW,if_neg AW,if_neg AW,if_pos e]
  rw[c,c];unfold kU at a ⊢;rw[if_pos e] at a ⊢;by_cases u:1<=s.self/\s.self<=s.scalars.length
  .rw[if_pos u,l.self]
   have:kindOf s.self=1+s.self:=by unfold kindOf;rw[if_neg AW];omega
   rw[this]
  .rw[if_neg u] at a;cases a
 .have n:hf x s i=kU x s:=by unfold hf;rw[if_neg AW,if_neg AW]
  rw[n] at a ⊢;have c:∀v tv,fm x v tv=gW v.lens x.n:=λv tv=>by unfold fm;rw[if_neg AW,if_neg AW,if_neg AW,if_neg AW,if_pos e]
  rw[c,c,l.lens];unfold kU at a ⊢;rw[if_neg (show ¬x.op=5 by omega),if_pos e] at a ⊢;unfold kT at a ⊢;cases t:nth s.ay x.n with
  | none=>rw[t] at a;cases a
  | some Z =>
   rw[t] at a;simp only at a ⊢;split
   .rw[Ac _ _ Ae]
   .rename_i u;rw[if_neg u] at a;cases a
 .have n:hf x s i=kU x s:=by unfold hf;rw[if_neg AW,if_neg AW]
  rw[n] at a ⊢;have c:∀v tv,fm x v tv=(if 0<=x.n then (match nth v.at_ (x.n.tdiv 16) with | some j=>gW j (x.n.tmod 16) | none=>(0,8)) else (0,8)):=λv tv=>by unfold fm;rw[if_neg AW,if_neg AW,if_neg AW,if_neg AW,if_neg AW,if_neg AW,if_pos e];rfl
  rw[c,c,l.at_];unfold kU at a ⊢;rw[if_neg (show ¬x.op=5 by omega),if_neg (show ¬x.op=6 by omega),if_pos e] at a ⊢;have Y:(zW x.n s).1=0:=by
   unfold zW
   repeat' split
   all_goals rfl
  rw[Y,Ac _ _ Ae]
 .have n:hf x s i=kU x s:=by unfold hf;rw[if_neg AW,if_neg AW]
  have c:∀v tv,fm x v tv=(0,0):=λv tv=>by unfold fm;rw[if_neg AW,if_neg AW,if_neg AW,if_neg AW,if_neg AW,if_neg AW,if_neg AW]
  rw[c,c,r]
def al1{s:C_ Scalar}{f b:Int->Int->Int}(e:eN s f b){x:Int}{d:pA}(h:gS x=some d){k:Int}(g:d.iZ = -1\/k=d.iZ)(a c:Int):d.xa (fl f k a) (fl f k c)=d.xa a c/\d.makes<2:=by
 have i:(fl f k a=fl f k c)=(a=c):=propext ⟨agO e,λj=>by rw[j]⟩;unfold gS at h
 repeat' split at h
 all_goals first
  | (cases h;done)
  | (cases h
     first
     | (simp only[wz,i];exact⟨trivial,Ae⟩)
     | (have l:k=0\/k=1:=by simp only[wz] at g;omega
        rw[Ac _ _ AW,Ac _ _ AW];exact⟨rfl,by simp[wz]⟩))
def PD(f:Int->Int->Int)(st vs b:C_ Int):Prop:=st.length=vs.length/\st.length=b.length/\∀(a:Nat) (c d:Int),st[a]? = some c->vs[a]? = some d->b[a]? = some (fl f c d)
theorem auc{s:Scope}{f b:Int->Int->Int}{v w:Env}(n:eN s.scalars f b)(H:E9 s f v w){x:Node}{st vs j:C_ Int}(I:PD f st vs j)(J:0<=ej x.op)(P:ej x.op<=(st.length:Int))(d:(gC s x st).2=0) :
  gk w x j=(fl f (gC s x st).1 (gk v x vs).1,(gk v x vs).2):=by
 obtain⟨p,q,u⟩:=I;unfold gC at d ⊢;unfold gk;cases h:gS x.op with
 | none =>
  rw[h] at d;simp only at d ⊢;have e:=as6 (tv:=vs.getLastD 0) n H J h d;rw[<-e];by_cases k:x.op=3
  .rw[if_pos k];have K:ej x.op=1:=by rw[k];rfl
   have y:st.length - 1<st.length:=AW
   have z:vs.length - 1<vs.length:=AW
   have l:=u (st.length - 1) _ _ (List.getElem?_eq_getElem y) (by rw[p];exact List.getElem?_eq_getElem z);have r:j.getLastD 0=fl f (st.getLastD 0) (vs.getLastD 0):=by
    rw[List.getLastD_eq_getLast?,List.getLastD_eq_getLast?,List.getLastD_eq_getLast?,List.getLast?_eq_getElem?,List.getLast?_eq_getElem?,List.getLast?_eq_getElem?,<-q,l,List.getElem?_eq_getElem y,List.getElem?_eq_getElem z];rfl
   rw[r]
  .rw[if_neg k];unfold fm
   repeat rw[if_neg k]
 | some i =>
  rw[h] at d;simp only at d ⊢;have Q:=(B5 h).1;have K:1<=ej x.op:=by
   have:=(B5 h).2
   have S:9<=x.op/\x.op<=19:=by simpa[BN] using this
   unfold ej
   repeat' split
   all_goals omega
  have A:st.length - i.parts.toNat<st.length:=AW
  rw[<-p,<-q];generalize st.length - i.parts.toNat=c at *;have t:∀g:C_ Int,(g.drop c).headD 0=g.getD c 0:=λg=>by rw[List.headD_eq_head?_getD,List.head?_drop,List.getD]
  have B:∀g:C_ Int,c<g.length->(g.drop c).getLastD 0=g.getD (g.length - 1) 0:=λg e=>by
   rw[List.getLastD_eq_getLast?,List.getLast?_drop,if_neg AW,List.getLast?_eq_getElem?,List.getD]
  have C:∀a,c<=a->a<st.length->(i.iZ = -1\/st.getD a 0=i.iZ)/\st.getD a 0=st.getD c 0:=λa G e=>by
   unfold nG at d;split at d
   .rename_i m;rw[List.all_eq_true] at m;have L:st.getD a 0∈st.drop c:=by
     rw[List.mem_iff_getElem?];exact⟨a - c,by rw[List.getElem?_drop,show c+(a - c)=a from AW,List.getElem?_eq_getElem e,List.getD,List.getElem?_eq_getElem e];rfl⟩
    have:=m _ L
    rw[t] at this;simpa using this
   .cases d
  have M:(nG i (st.drop c)).1=i.makes:=by
   unfold nG at d ⊢;split at d
   .rename_i m;rw[if_pos m]
   .cases d
  have l:∀a,c<=a->a<st.length->j.getD a 0=fl f (st.getD c 0) (vs.getD a 0):=λa G e=>by
   have r:=u a _ _ (List.getElem?_eq_getElem e) (List.getElem?_eq_getElem AW);rw[List.getD,r,<-(C a G e).2,List.getD,List.getD,List.getElem?_eq_getElem e,List.getElem?_eq_getElem (show a<vs.length by omega)];rfl
  obtain⟨N,O⟩:=al1 n h (C c (Fy _) A).1 (vs.getD c 0) (vs.getD (st.length - 1) 0);unfold wH;rw[t,t,B _ AW,B _ AW,<-p,<-q,l c (Fy _) A,l _ AW AW,N,M];simp only;split
  .rw[Ac _ _ O]
  .rw[Cb n]
theorem ahg{s:Scope}{f b:Int->Int->Int}{v w:Env}(x:eN s.scalars f b)(y:E9 s f v w):∀(k:C_ Node) (a l m n:C_ Int),PD f a l m->e7 (gC s) k a=(0,n) ->
  (e7 (gk w) k m).1=(e7 (gk v) k l).1/\((e7 (gk v) k l).1=0->PD f n (e7 (gk v) k l).2 (e7 (gk w) k m).2)
 | [],a,l,m,n,hm,e=>by
  simp only[e7,Prod.mk.injEq,true_and] at e;subst e;exact⟨rfl,λ_=>hm⟩
 | c :: k,a,l,m,n,hm,e=>by
  simp only[e7] at e ⊢;by_cases p:(stepG (gC s) c a).1≠0
  .rw[if_pos p] at e;rw[e] at p;exact absurd rfl p
  rw[if_neg p] at e;have g:(stepG (gC s) c a).1=0:=by simpa using p
  obtain⟨J,K,_⟩:=ahY g;obtain⟨r,t,z⟩:=hm;have A:(gC s c a).2=0:=by
   unfold stepG at g;rw[if_neg AW,if_neg AW] at g;by_cases d:(gC s c a).2≠0
   .rw[if_pos d] at g;exact absurd g d
   .simpa using d
  have L:=auc x y ⟨r,t,z⟩ J K A;have B:stepG (gC s) c a=(0,a.take (a.length - (ej c.op).toNat)++[(gC s c a).1])/\(a.take (a.length - (ej c.op).toNat)++[(gC s c a).1]).length<=12:=by
   unfold stepG at g ⊢;rw[if_neg AW,if_neg AW,if_neg (by simp[A])] at g ⊢;split at g
   .cases g
   .rename_i d;rw[if_neg d];exact⟨rfl,AW⟩
  have M:=B.2;rw[B.1] at e;simp only[ne_eq,not_true_eq_false,if_false] at e;simp only[List.length_append,List.length_take,List.length_cons,List.length_nil] at M;have C:∀(q:Env) (h:C_ Int),a.length=h.length->stepG (gk q) c h=if (gk q c h).2≠0 then ((gk q c h).2,h) else (0,h.take (h.length - (ej c.op).toNat)++[(gk q c h).1]):=λq h Q=>by
   unfold stepG;rw[if_neg AW,if_neg AW];split
   .rfl
   .rw[if_neg];simp only[List.length_append,List.length_take,List.length_cons,List.length_nil];omega
  rw[C v l r,C w m t,L];simp only;by_cases d:(gk v c l).2≠0
  .rw[if_pos d,if_pos d];simp only[if_pos d];exact⟨trivial,λN=>absurd N d⟩
  .rw[if_neg d,if_neg d];simp only[ne_eq,not_true_eq_false,if_false];refine ahg x y k _ _ _ n ⟨by simp only[List.length_append,List.length_take,List.length_cons,List.length_nil];omega,by simp only[List.length_append,List.length_take,List.length_cons,List.length_nil];omega,λu O P i j=>?_⟩ e;rw[<-r] at j;rw[<-t];generalize a.length - (ej c.op).toNat=G at *;rw[List.getElem?_append] at i j ⊢;simp only[List.length_take,<-r,<-t] at i j ⊢;by_cases H:u<min G a.length
   .rw[if_pos H] at i j ⊢;rw[List.getElem?_take_of_lt AW] at i j ⊢;exact z u O P i j
   .rw[if_neg H] at i j ⊢;generalize u - min G a.length=I at *;cases I with
    | zero =>
     simp at i j ⊢;subst i j;rfl
    | succ I=>simp at i
theorem abe{s:Scope}{f b:Int->Int->Int}{v w:Env}(i:eN s.scalars f b)(d:E9 s f v w){e:C_ Node}(h:(kind e s).2=0):eval e w=(fl f (kind e s).1 (eval e v).1,(eval e v).2):=by
 obtain⟨n,j,g,k⟩:=aw7 h;have p:kind e s=(g,0):=aw6 n j k;obtain⟨q,r⟩:=ahg i d e [] [] [] [g] ⟨rfl,rfl,λC g t h _=>by simp at h⟩ k;have u:=Cb i;have x:¬e.length=0:=λy=>j (AG1 y);have d:∀a:Env,eval e a=if (e7 (gk a) e []).1≠0 then (0,(e7 (gk a) e []).1) else if (e7 (gk a) e []).2.length > 1 then (0,5) else ((e7 (gk a) e []).2.headD 0,0):=λa=>by
  unfold eval ma;rw[if_neg AW,if_neg x]
 rw[p,d,d,q];by_cases c:(e7 (gk v) e []).1≠0
 .rw[if_pos c,if_pos c,u]
 rw[if_neg c,if_neg c];obtain⟨l,m,z⟩:=r (by simpa using c);simp only[List.length_singleton] at l m;rw[if_neg AW,if_neg AW]
 match A:(e7 (gk v) e []).2,hw:(e7 (gk w) e []).2,l,m with
 | [B],[t],_,_ =>
  have:=z 0 g B rfl (by rw[A];rfl)
  rw[hw] at this;simp at this;simp[this]
structure CR(v:Var)(s:List Scalar):Prop where
 fc:v.scalar=0\/size v.scalar s≠0
 dj:v.over=0\/size v.over s≠0
 HS:v.scalar=0->narrow v.aQ v.ab=true
 aQ:(bounds v s).1<=v.init
 ab:v.init<=(bounds v s).2
structure E5(c:ed)(s:List Scalar):Prop where
 fc:c.scalar=0\/size c.scalar s≠0
 cap:1<=c.cap/\c.cap<=4
 HS:c.scalar=0->narrow c.aQ c.ab=true
structure ajd(p:ee)(s:List Scalar):Prop where
 over:0<=p.over/\p.over<=s.length
 cb:1<=p.cb/\p.cb<=12
 g2:p.vars.length<=4/\p.cL.length<=12
 var:∀v∈p.vars,CR v s
structure gm(m:Model):Prop where
 g2:m.scalars.length<=2/\m.vars.length<=12/\m.ay.length<=4
 procs:m.procs.length<=6
 var:∀v∈m.vars,CR v m.scalars
 chan:∀c∈m.ay,E5 c m.scalars
 proc:∀p∈m.procs,ajd p m.scalars
 insts:(pieces m).1<=12
 cells:(pieces m).2.2<=64
def VS{k:Int}{s:C_ Scalar}(h:¬there k s=false):k=0\/size k s≠0:=by
 unfold there at h;by_cases a:k=0
 .exact .inl a
 .exact .inr (by simpa[a] using h)
def aiv{l:C_ Var}{s:C_ Scalar}{i:Nat}(d:i<l.length)(h:q1 l s i=0):CR l[i] s:=by
 unfold q1 at h;rw[List.getElem?_eq_getElem d] at h;simp only at h;by_cases b:there l[i].scalar s=false\/there l[i].over s=false
 .rw[if_pos b] at h;cases h
 rw[if_neg b] at h;by_cases c:(l[i].scalar=0/\narrow l[i].aQ l[i].ab=false)\/l[i].init<(bounds l[i] s).1\/l[i].init > (bounds l[i] s).2
 .rw[if_pos c] at h;cases h
 refine⟨VS λa=>b (.inl a),VS λa=>b (.inr a),λe=>?_,?_,?_⟩
 .cases f:narrow l[i].aQ l[i].ab with
  | true=>rfl
  | false=>exact absurd (.inl ⟨e,f⟩) c
 .exact Int.not_lt.1 λa=>c (.inr (.inl a))
 .exact Int.not_lt.1 λa=>c (.inr (.inr a))
theorem ak9{l:C_ ed}{s:C_ Scalar}{i:Nat}(c:i<l.length)(h:qt l s i=0):E5 l[i] s:=by
 unfold qt at h;rw[List.getElem?_eq_getElem c] at h;simp only at h;by_cases a:there l[i].scalar s=false
 .rw[if_pos a] at h;cases h
 rw[if_neg a] at h;by_cases b:l[i].cap<1\/l[i].cap > 4\/(l[i].scalar=0/\narrow l[i].aQ l[i].ab=false)
 .rw[if_pos b] at h;cases h
 refine⟨VS a,AW,λd=>?_⟩;cases e:narrow l[i].aQ l[i].ab with
 | true=>rfl
 | false=>exact absurd (.inr (.inr ⟨d,e⟩)) b
def Ka{fR:Int}{a:Nat->ByteArray}{mo:Nat->Int}{i:Nat}(h:err fR a mo i=0):mo i=0:=by
 unfold err at h;split at h
 .cases h
 .split at h
  .cases h
  .split at h
   .cases h
   .exact h
def g6{m:Model}(h:(check m).bN=0):gm m:=by
 unfold check at h;by_cases c:(data m).bN≠0
 .rw[if_pos c] at h;exact absurd h c
 rw[if_neg c] at h;have c:(data m).bN=0:=by simpa using c
 by_cases e:(oQ m).bN≠0
 .rw[if_pos e] at h;exact absurd h e
 have e:(oQ m).bN=0:=by simpa using e
 obtain⟨A,n,p⟩:=QK c;obtain⟨j,q,r⟩:=N9 e;refine⟨FY c,?_,λs f=>?_,λB t=>?_,λC u=>?_,q,r⟩
 .apply Classical.byContradiction;intro g
  have:=J8 (i:=6) AW (j 6 AW)
  omega
 .obtain⟨d,a,rfl⟩:=List.mem_iff_getElem.1 f;exact aiv a (Ka (O2 (n d a)))
 .obtain⟨d,a,rfl⟩:=List.mem_iff_getElem.1 t;exact ak9 a (Ka (JG (p d a)))
 .obtain⟨d,a,rfl⟩:=List.mem_iff_getElem.1 u;obtain⟨_,v,_,_⟩:=Dg a (j d a);have k:(h0 m d).scalars=m.scalars:=by
   unfold h0;split<;>rfl
  obtain⟨w,x,b,i,_⟩:=UZ v;have y:(vars m.procs[d].vars m.scalars 4).2=0:=by
   apply Classical.byContradiction;intro g;unfold mG at i;rw[k,if_pos g] at i;exact g i
  unfold whole at b;rw[k] at b;split at b
  .cases b
  .split at b
   .cases b
   .split at b
    .cases b
    .exact⟨AW,AW,⟨w,x⟩,λs f=>by
      obtain⟨z,l,rfl⟩:=List.mem_iff_getElem.1 f;exact aiv l (Ka (vF y z l))⟩
def aj7{a b c:Int}{s:C_ Scalar}(h:a=0->b<=c):(dM a b c s).aQ<=(dM a b c s).ab:=by
 unfold dM;split
 .rename_i d;exact h d
 .exact(size_le a s).1
def Uu{a b:Int}(h:narrow a b=true) : -1048576<=a/\a<=b/\b<=1048576/\b - a<256:=by
 unfold narrow at h;exact of_decide_eq_true h
def aiu{v:Var}{s:C_ Scalar}(h:CR v s):(dM v.scalar v.aQ v.ab s).aQ<=(dM v.scalar v.aQ v.ab s).ab:=aj7 λa=>(Uu (h.HS a)).2.1
def ak8(c:ed)(s:C_ Scalar):(kc s c).aQ<=0/\0<=(kc s c).ab:=by
 unfold kc dM;split
 .simp only;omega
 .exact⟨Int.le_refl _,(size_le c.scalar s).1⟩
def akY{v:Var}{s:C_ Scalar}(h:CR v s):1<=cells v s:=by
 have:=size_le v.over s
 have:=h.dj
 unfold cells;split<;>omega
theorem vd(s:C_ Scalar)(v:Var):(q0 s v).length=(cells v s).toNat:=by simp[q0]
theorem o7(s:C_ Scalar)(c:ed):(iM s c).length=1+c.cap.toNat:=by simp[iM];omega
def uO{m:Model}{x:c7}(h:x.of m):∃(a:Nat) (b:a<m.procs.length),x.proc=a/\kj m x=kX m.scalars m.procs[a]:=by
 refine⟨x.proc.toNat,by have:=h.ab;have:=h.aQ;omega,by have:=h.aQ;omega,?_⟩;unfold kj;rw[ir h.aQ (by exact_mod_cast h.ab)]
def ayu{m:Model}(h:gm m):∀a∈bU m,a≠[]:=λa b=>by
 obtain⟨c,d,rfl⟩:=List.mem_map.1 b
 have:=akY (h.var c d)
 intro e
 have:=congrArg List.length e
 rw[vd] at this;simp at this;omega
def akw(m:Model):∀a∈cn m,a≠[]:=λa b=>by
 obtain⟨c,d,rfl⟩:=List.mem_map.1 b;simp[iM]
def ar1(m:Model):∀a∈dH m,a≠[]:=λa b=>by
 obtain⟨c,d,rfl⟩:=List.mem_map.1 b;obtain⟨f,g,_,e⟩:=uO (qM c d);rw[e];simp[kX]
def ank{m:Model}(h:gm m):jQ 1 (bD m) 0=gV 0 (bU m)/\jQ 2 (bD m) 0=gV (total (bU m)) (cn m)/\jQ 3 (bD m) 0=gV (total (bU m)+total (cn m)) (dH m):=by
 unfold bD;simp only[Gc,kb,List.length_append,Nat.zero_add];refine⟨?_,?_,?_⟩
 .rw[Km 1 _ 0 0 (ayu h),A1 1 2 Ae,A1 1 3 Ae];simp
 .rw[Km 2 _ 0 _ (akw m),A1 2 1 Ae,A1 2 3 Ae];simp
 .rw[Km 3 _ 0 _ (ar1 m),A1 3 1 Ae,A1 3 2 Ae];simp
def VL(x:Int)(l:C_ Int):jG (x :: l)=x+jG l:=by
 have d:∀(l:C_ Int) (a:Int),l.foldl (· + ·) a=a+l.foldl (· + ·) 0:=by
  intro l
  induction l with
  | nil=>intro a;simp
  | cons b e c =>
   intro a;simp only[List.foldl_cons];rw[c (a+b),c (0+b)];omega
 unfold jG;rw[List.foldl_cons,d];omega
theorem Aj(l:C_ ec)(r:C_ (C_ ec)):total (l :: r)=l.length+total r:=by simp[total]
def Iy(a b:C_ (C_ ec)):total (a++b)=total a+total b:=by simp[total]
theorem aid(s:C_ Scalar):∀b:C_ Var,(total (b.map (q0 s)):Int)=jG (b.map λa=>cells a s)
 | []=>rfl
 | a :: c=>by
  rw[AH9,Aj,AH9,VL,<-aid s c,vd]
  have:=(sg a s).1
  omega
theorem aia(s:C_ Scalar):∀a:C_ ed,(∀b∈a,E5 b s)->(total (a.map (iM s)):Int)=jG (a.map sf)
 | [],_=>rfl
 | b :: d,c=>by
  rw[AH9,Aj,AH9,VL,<-aia s d (λe f=>c e (by simp[f])),o7]
  have:=(c b Ah).cap
  unfold sf;omega
def pt(s:C_ Scalar)(p:ee):(kX s p).length=1+p.vars.length:=by simp[kX];omega
def amn(m:Model)(i:Nat)(p:ee)(h:0<=p.over):(((jE i p).length+elems m p:Nat):Int)=l6 m p:=by
 unfold jE l6 elems;by_cases a:p.over=0
 .rw[if_pos a,if_pos a,hz (.inl AW)];rfl
 .rw[if_neg a,if_neg a];unfold size;by_cases c:p.over - 1<m.scalars.length
  .rw[ir AW c,List.getElem?_eq_getElem AW];simp only;by_cases b:(m.scalars[(p.over - 1).toNat]' AW).size<1\/4<(m.scalars[(p.over - 1).toNat]' AW).size
   .rw[if_pos b,if_neg AW];rfl
   .rw[if_neg b,if_pos AW];simp only[List.length_nil];omega
  .rw[hz (.inr AW),List.getElem?_eq_none AW];rfl
theorem aib(m:Model):∀(e:C_ ee) (d:Nat),m.procs.drop d=e->(∀b∈e,0<=b.over)->(total ((kD m e d).map (kj m)):Int)=jG (e.map λb=>l6 m b*(1+b.vars.length))
 | [],_,_,_=>rfl
 | b :: h,d,g,f=>by
  have i:d<m.procs.length:=by
   apply Classical.byContradiction;intro t;rw[VB AW] at g;cases g
  rw[AF9 i] at g;injection g with j k
  have l:∀c:c7,c.proc=d->(kj m c).length=1+b.vars.length:=λc a=>by
   unfold kj;rw[a,ir AW AW];simp only[Int.toNat_natCast];rw[j,pt]
  have n:∀e:C_ c7,(∀c∈e,c.proc=d)->total (e.map (kj m))=e.length*(1+b.vars.length):=by
   intro e
   induction e with
   | nil=>intro _;simp[total]
   | cons c h p =>
    intro f;rw[AH9,Aj,p (λq r=>f q (by simp[r])),l c (f c Ah),AH3,AI2];omega
  have s:∀c∈jE d b++km d (elems m b),c.proc=d:=λc a=>by
   rcases List.mem_append.1 a with a | a
   .unfold jE at a;split at a
    .rw[AH0] at a;rw[a]
    .cases a
   .unfold km at a;obtain⟨u,_,rfl⟩:=List.mem_map.1 a;rfl
  rw[kD,AF8,Iy,n _ s,AH9,VL,<-aib m h (d+1) k (λc a=>f c (by simp[a])),<-amn m d b (f b Ah)];rw[Jv,show(km d (elems m b)).length=elems m b from by simp[km]];simp only[Int.natCast_add,Int.natCast_mul];rfl
def Ml{m:Model}(h:gm m):((bD m).length:Int)=(pieces m).2.2:=by
 rw[zX];have a:=aid m.scalars m.vars;have b:=aia m.scalars m.ay h.chan;have c:=aib m m.procs 0 Ah (λd e=>(h.proc d e).over.1);unfold pieces;simp only;rw[<-a,<-b,<-c];simp only[bU,cn,dH,insts];omega
def F9(l:yJ)(s:Int):C_ Int:=if s=3 then l.insts else if s=2 then l.ay else l.vars
structure aiZ(m:Model)(c:Nat)(x:Cell):Prop where
 sort:1<=x.sort/\x.sort<=3
 jm:0<=x.jm/\x.jm<(F9 (layout m) x.sort).length
 at_:(F9 (layout m) x.sort)[x.jm.toNat]? = some ((c:Int) - x.place)
 place:0<=x.place/\x.place<=c
 le:x.aQ<=x.ab
 chan:x.sort=2->x.aQ<=0/\0<=x.ab
def T5{m:Model}{c:Nat}(h:c<total (bU m)):(bD m)[c]? = (cellsOf 1 (bU m) 0)[c]? := by
 unfold bD;rw[List.getElem?_append_left (by rw[Jv,kb];omega),List.getElem?_append_left (by rw[kb];exact h)]
def Mm{m:Model}{c:Nat}(a:total (bU m)<=c)(h:c<total (bU m)+total (cn m)):(bD m)[c]? = (cellsOf 2 (cn m) 0)[c - total (bU m)]? := by
 unfold bD;rw[List.getElem?_append_left (by rw[Jv,kb,kb];omega),List.getElem?_append_right (by rw[kb];exact a),kb]
def Mn{m:Model}{c:Nat}(a:total (bU m)+total (cn m)<=c):(bD m)[c]? = (cellsOf 3 (dH m) 0)[c - (total (bU m)+total (cn m))]? := by
 unfold bD;rw[List.getElem?_append_right (by rw[Jv,kb,kb];exact a),Jv,kb,kb]
def Rq{α:Type}{l a:C_ α}{i j:Nat}{x:α}(h:l[i]? = a[j]?)(b:i<l.length)(c:j<a.length)(d:a[j]=x):l[i]=x:=by
 rw[List.getElem?_eq_getElem b,List.getElem?_eq_getElem c,d] at h;exact Option.some.inj h
def akP{m:Model}(h:gm m){c:Nat}(t:c<(bD m).length):aiZ m c (bD m)[c]:=by
 have A:=t;rw[zX] at A;by_cases w:c<total (bU m)
 .have d:c<(cellsOf 1 (bU m) 0).length:=by rw[kb];exact w
  obtain⟨a,b,e,g,i,j,x⟩:=JE 1 (bU m) 0 0 c d;have k:(bD m)[c]=⟨1,(0+a:Nat),b,(bU m)[a][b].aQ,(bU m)[a][b].ab,(bU m)[a][b].kind⟩:=by
   exact Rq (T5 w) t d i
  rw[k];have l:(gV 0 (bU m)).length=(bU m).length:=rU _ _;have f:F9 (layout m) 1=gV 0 (bU m):=rfl;refine⟨Ah,?_,?_,by simp;omega,?_,Ah⟩
  .rw[f,l];simp;exact e
  .rw[f];simp only[Nat.zero_add,Int.toNat_natCast];rw[j];congr 1;omega
  .have n:a<m.vars.length:=by simpa[bU] using e
   have p:=h.var _ (ID n)
   have:(bU m)[a]=q0 m.scalars m.vars[a]:=by simp[bU]
   simp only[this];have q:(q0 m.scalars m.vars[a])[b]'(by rw[<-this];exact g)=dM m.vars[a].scalar m.vars[a].aQ m.vars[a].ab m.scalars:=by simp[q0]
   rw[q];exact aiu p
 by_cases B:c<total (bU m)+total (cn m)
 .have d:c - total (bU m)<(cellsOf 2 (cn m) 0).length:=by rw[kb];omega
  obtain⟨a,b,e,g,i,j,x⟩:=JE 2 (cn m) 0 (total (bU m)) (c - total (bU m)) d;have k:(bD m)[c]=⟨2,(0+a:Nat),b,(cn m)[a][b].aQ,(cn m)[a][b].ab,(cn m)[a][b].kind⟩:=by
   exact Rq (Mm AW B) t d i
  rw[k];have l:(gV (total (bU m)) (cn m)).length=(cn m).length:=rU _ _;have f:F9 (layout m) 2=gV (total (bU m)) (cn m):=rfl;have q:(cn m)[a][b].aQ<=0/\0<=(cn m)[a][b].ab:=by
   have n:a<m.ay.length:=by simpa[cn] using e
   have p:=h.chan _ (ID n);have u:(cn m)[a]=iM m.scalars m.ay[a]:=by simp[cn]
   have r:(cn m)[a][b]∈iM m.scalars m.ay[a]:=by rw[<-u];exact ID g
   unfold iM at r;rcases List.mem_cons.1 r with s | s
   .rw[s];have:=p.cap;simp;omega
   .rw[(List.mem_replicate.1 s).2];exact ak8 _ _
  refine⟨Ah,?_,?_,by simp;omega,?_,λ_=>q⟩
  .rw[f,l];simp;exact e
  .rw[f];simp only[Nat.zero_add,Int.toNat_natCast];rw[j];congr 1;omega
  .exact Int.le_trans q.1 q.2
 .have d:c - (total (bU m)+total (cn m))<(cellsOf 3 (dH m) 0).length:=by rw[kb];omega
  obtain⟨a,b,e,g,i,j,x⟩:=JE 3 (dH m) 0 (total (bU m)+total (cn m)) (c - (total (bU m)+total (cn m))) d;have k:(bD m)[c]=⟨3,(0+a:Nat),b,(dH m)[a][b].aQ,(dH m)[a][b].ab,(dH m)[a][b].kind⟩:=by
   exact Rq (Mn AW) t d i
  rw[k];have l:(gV (total (bU m)+total (cn m)) (dH m)).length=(dH m).length:=rU _ _;have f:F9 (layout m) 3=gV (total (bU m)+total (cn m)) (dH m):=rfl;refine⟨Ah,?_,?_,by simp;omega,?_,Ah⟩
  .rw[f,l];simp;exact e
  .rw[f];simp only[Nat.zero_add,Int.toNat_natCast];rw[j];congr 1;omega
  .have n:a<(insts m).length:=by simpa[dH] using e
   obtain⟨y,C,_,s⟩:=uO (qM _ (ID n));have u:(dH m)[a]=kX m.scalars m.procs[y]:=by simp[dH,s]
   have z:=h.proc _ (ID C);have r:(dH m)[a][b]∈kX m.scalars m.procs[y]:=by rw[<-u];exact ID g
   unfold kX at r;rcases List.mem_cons.1 r with v | v
   .rw[v];have:=z.cb;simp;omega
   .obtain⟨G,p,H⟩:=List.mem_map.1 v;rw[<-H];exact aiu (z.var G p)
def Cq{a:C_ (C_ ec)}{i:Nat}(h:i<a.length):total (a.take (i+1))=total (a.take i)+a[i].length:=by
 rw[NZ h,ayc]
def ayd(a:C_ (C_ ec))(i:Nat):total (a.take i)<=total a:=by
 have b:total a=total (a.take i)+total (a.drop i):=by rw[<-Iy,AH7]
 omega
def VP{a:C_ (C_ ec)}{i:Nat}(h:i<a.length):total (a.take i)+a[i].length<=total a:=by
 rw[<-Cq h];exact ayd _ _
def dU(m:Model)(i:Nat):Nat:=total ((bU m).take i)
def bT(m:Model)(i:Nat):Nat:=total (bU m)+total ((cn m).take i)
def b7(m:Model)(i:Nat):Nat:=total (bU m)+total (cn m)+total ((dH m).take i)
theorem OJ(n:Nat):∀(c:C_ (C_ ec)) (a:Nat) (b:a<(gV n c).length),(gV n c)[a]=((n+total (c.take a):Nat):Int)
 | [],a,b=>by simp[gV] at b
 | d :: e,0,b=>by simp[gV,total]
 | d :: e,a+1,b=>by
  simp only[gV,List.getElem_cons_succ,List.take_succ_cons,Aj];rw[OJ (n+d.length) e a (by simpa[gV] using b)];congr 1;omega
def cG(m:Model):Nat:=(bD m).length
def nu(m:Model):cG m=total (bU m)+total (cn m)+total (dH m):=zX m
def Al{m:Model}{i:Nat}(h:i<m.vars.length):∃a:i<(layout m).vars.length,(layout m).vars[i]=(dU m i:Int):=by
 have a:i<(gV 0 (bU m)).length:=by rw[rU];simpa[bU] using h
 exact⟨a,by have:=OJ 0 (bU m) i a;rw[ZB] at this;exact this⟩
def AP{m:Model}{i:Nat}(h:i<m.ay.length):∃a:i<(layout m).ay.length,(layout m).ay[i]=(bT m i:Int):=by
 have a:i<(gV (total (bU m)) (cn m)).length:=by rw[rU];simpa[cn] using h
 exact⟨a,OJ _ _ i a⟩
def qK{m:Model}{i:Nat}(h:i<(insts m).length):∃a:i<(layout m).insts.length,(layout m).insts[i]=(b7 m i:Int):=by
 have a:i<(gV (total (bU m)+total (cn m)) (dH m)).length:=by rw[rU];simpa[dH] using h
 exact⟨a,OJ _ _ i a⟩
def qZ{m:Model}{i:Nat}(h:i<m.vars.length):dU m i+(cells m.vars[i] m.scalars).toNat<=total (bU m):=by
 have a:i<(bU m).length:=by simpa[bU] using h
 have:=VP a
 have b:(bU m)[i].length=(cells m.vars[i] m.scalars).toNat:=by simp[bU,vd]
 rw[b] at this;exact this
def ud{m:Model}{i:Nat}(h:i<m.ay.length):bT m i+(1+m.ay[i].cap.toNat)<=total (bU m)+total (cn m):=by
 have a:i<(cn m).length:=by simpa[cn] using h
 have:=VP a
 have b:(cn m)[i].length=1+m.ay[i].cap.toNat:=by simp[cn,o7]
 rw[b] at this;unfold bT;omega
def Hx{m:Model}{i:Nat}(h:i<(insts m).length):b7 m i+(kj m (insts m)[i]).length<=cG m:=by
 have a:i<(dH m).length:=by simpa[dH] using h
 have:=VP a
 have b:(dH m)[i].length=(kj m (insts m)[i]).length:=by simp[dH]
 rw[b] at this;rw[nu];unfold b7;omega
def pj(m:Model)(x:c7):C_ Int:=match nth m.procs x.proc with | some a=>0 :: a.vars.map (·.init) | none=>[]
def OW(m:Model)(v:Var):C_ Int:=List.replicate (cells v m.scalars).toNat v.init
def Qw(c:ed):C_ Int:=List.replicate (1+c.cap.toNat) 0
def dp(m:Model):C_ Int:=m.vars.flatMap (OW m)++m.ay.flatMap Qw++(insts m).flatMap (pj m)
def mO(s:C_ Scalar)(c:ed)(l:C_ Int):Prop :=
 ∃a,l[0]? = some a/\0<=a/\a<=c.cap/\∀b:Nat,(b:Int)<c.cap->∃d,l[b+1]? = some d/\((b:Int)<a->(dM c.scalar c.aQ c.ab s).aQ<=d/\d<=(dM c.scalar c.aQ c.ab s).ab)/\(a<=b->d=0)
def lU(m:Model)(i:Nat)(c:ed)(s:C_ Int):C_ Int:=(s.drop (bT m i)).take (1+c.cap.toNat)
structure Fits(m:Model)(s:List Int):Prop where
 len:s.length=cG m
 queue:∀i (h:i<m.ay.length),mO m.scalars m.ay[i] (lU m i m.ay[i] s)
 cell:∀i (h:i<s.length) (bn:i<(bD m).length),(bD m)[i].aQ<=s[i]/\s[i]<=(bD m)[i].ab
def nm(m:Model)(s:C_ Int):Prop:=(check m).bN=0/\Fits m s
def s9(m:Model)(s:C_ Int)(p:Int)(l:Int)(k:Nat):Nat:=((List.range k).filter λa=>decide (((insts m)[a]?.map (·.proc))=some p/\s[b7 m a]? = some l)).length
def ka(m:Model)(s:C_ Int)(p:Nat)(n:Int)(k:Nat):C_ Int:=(List.range n.toNat).map λ(a:Nat)=>((s9 m s (p:Int) (a:Int) k:Nat):Int)
def OD(m:Model)(s:C_ Int)(inst:Int):C_ Int×Int :=
 match nth (insts m) inst with
 | some a=>((s.drop (b7 m inst.toNat+1)).take ((kj m a).length - 1),a.elem)
 | none=>([],0)
def cd(m:Model)(s:C_ Int)(inst:Int):Env :=
 ⟨(List.range m.vars.length).map λa=>(s.drop (dU m a)).take (bU m)[a]!.length,
  (List.range m.ay.length).map λa=>s[bT m a]!,
  (OD m s inst).1,
  (List.range m.procs.length).map λa=>ka m s a (m.procs[a]?.map (·.cb) |>.getD 0) (insts m).length,
  (OD m s inst).2⟩
def c7.key(x:c7):Int:=5*x.proc+x.elem
def chain:c7->C_ c7->Prop
 | _,[]=>True
 | b,a :: c=>a≠b/\chain a c
theorem aae:∀(c:C_ c7) (b:c7),(b :: c).Pairwise (λa d=>a.key<d.key)->chain b c
 | [],_,_=>trivial
 | a :: e,b,f=>by
  obtain⟨g,h⟩:=List.pairwise_cons.1 f;refine⟨λi=>?_,aae e a h⟩
  have:=g a Ah
  rw[i] at this;exact absurd this (AK4 _)
theorem L5{m:Model}:∀(q:C_ ee) (c:Nat),(kD m q c).Pairwise (λb f=>b.key<f.key)/\∀b∈kD m q c,5*(c:Int)<=b.key
 | [],_=>⟨List.Pairwise.nil,λb a=>by simp[kD] at a⟩
 | g :: s,c=>by
  obtain⟨t,r⟩:=L5 s (c+1);have k:∀b∈jE c g,b=⟨(c:Int),0⟩:=λb a=>by
   unfold jE at a;split at a
   .simpa using a
   .cases a
  have l:∀b∈km c (elems m g),∃d:Nat,d<4/\b=⟨(c:Int),(d:Int)+1⟩:=λb a=>by
   unfold km at a;obtain⟨d,n,rfl⟩:=List.mem_map.1 a
   have:=List.mem_range.1 n
   have:=F3 m g
   exact⟨d,AW,rfl⟩
  have u:(km c (elems m g)).Pairwise (λb f=>b.key<f.key):=by
   unfold km;rw[List.pairwise_map];exact List.Pairwise.imp (λ{h i} w=>by simp only[c7.key];omega) List.pairwise_lt_range
  have v:(jE c g).Pairwise (λb f=>b.key<f.key):=by
   unfold jE;split
   .exact List.pairwise_singleton _ _
   .exact List.Pairwise.nil
  simp only[kD];refine⟨List.pairwise_append.2 ⟨List.pairwise_append.2 ⟨v,u,λh e i p=>?_⟩,t,λh e i p=>?_⟩,λb a=>?_⟩
  .obtain rfl:=k h e;obtain⟨d,_,rfl⟩:=l i p;simp only[c7.key];omega
  .have j:=r i p;rcases List.mem_append.1 e with e | e
   .obtain rfl:=k h e;simp only[c7.key];simp at j;unfold c7.key at j;omega
   .obtain⟨d,n,rfl⟩:=l h e;unfold c7.key at j ⊢;simp at j ⊢;omega
  .rcases List.mem_append.1 a with a | a
   .rcases List.mem_append.1 a with a | a
    .obtain rfl:=k b a;simp[c7.key]
    .obtain⟨d,n,rfl⟩:=l b a;unfold c7.key;simp;omega
   .have:=r b a
    simp at this;omega
def asi(m:Model):chain ⟨-1,0⟩ (insts m):=by
 obtain⟨a,b⟩:=L5 (m:=m) m.procs 0;refine aae _ _ (List.pairwise_cons.2 ⟨λc d=>?_,a⟩)
 have:=b c d
 unfold c7.key at this ⊢;simp at this ⊢;omega
theorem aby(m:Model):∀(e:C_ c7) (a:Nat) (c:c7) (b:C_ Ref),chain c e->(e.foldl (nH m) ((a:Int) - 1,c,b)).2.2=b++mI m e a
 | [],_,_,_,_=>by simp[mI]
 | d :: g,a,c,b,f=>by
  simp only[List.foldl_cons];have h:nH m ((a:Int) - 1,c,b) d=(((a+1:Nat):Int) - 1,d,b++refsOf a (p4 m d)):=by
   unfold nH;simp only;rw[if_pos f.1];congr 1
   .omega
   .congr 2;congr 1;omega
  rw[h,aby m g (a+1) d _ f.2];simp[mI]
def awE(m:Model):((insts m).foldl (nH m) (-1,⟨-1,0⟩,[])).2.2=refs m:=by
 have:=aby m (insts m) 0 ⟨-1,0⟩ [] (asi m)
 simpa[refs] using this
structure Av(m:Model):Prop where
 procs:m.procs.length<=30
 cL:∀p∈m.procs,p.cL.length<=30
def Ux{m:Model}(h:Av m)(x:c7):p4 m x<=30:=by
 unfold p4;split
 .rename_i c a;refine h.cL c ?_;unfold nth at a;by_cases b:0<=x.proc
  .rw[if_pos b] at a;exact List.mem_of_getElem? a
  .rw[if_neg b] at a;cases a
 .omega
theorem abw{m:Model}(h:Av m):∀(b:C_ c7) (a:Int×c7×C_ Ref),a.1<=(b.foldl (nH m) a).1/\(b.foldl (nH m) a).1<=a.1+b.length/\(b.foldl (nH m) a).2.2.length<=a.2.2.length+30*b.length
 | [],a=>Ah
 | c :: d,a=>by
  obtain⟨e,f,g⟩:=abw h d (nH m a c);simp only[List.foldl_cons,List.length_cons];have i:=Ux h c;have j:a.1<=(nH m a c).1/\(nH m a c).1<=a.1+1:=by unfold nH;simp only;split<;>omega
  have k:(nH m a c).2.2.length<=a.2.2.length+30:=by unfold nH refsOf;simp only[List.length_append,List.length_map,List.length_range];omega
  omega
theorem agH{m:Model}(h:Av m):∀(b:C_ c7) (a:Nat),(mI m b a).length<=30*b.length
 | [],_=>by simp[mI]
 | c :: d,a=>by
  have:=agH h d (a+1)
  have:=Ux h c
  simp only[mI,List.length_append,refsOf,List.length_map,List.length_range,List.length_cons];omega
def Vg{m:Model}(h:Av m):(refs m).length<=4500:=by
 have:=agH h (insts m) 0
 have:=tz m
 have:=h.procs
 unfold refs;omega
structure YG(m:Model)(r:Ref)(i p k:Nat):Prop where
 ab:i<(insts m).length
 rS:r.inst=i
 ip:(insts m)[i].proc=p
 aC:p<m.procs.length
 sO:r.cmd=k
 J:k<m.procs[p].cL.length
theorem agI{m:Model}:∀(c:C_ c7) (f:Nat) (d:Ref),d∈mI m c f->∃e,∃g:e<c.length,d.inst=((f+e:Nat):Int)/\∃b:Nat,b<p4 m c[e]/\d.cmd=b
 | [],_,_,a=>by simp[mI] at a
 | l :: c,f,d,a=>by
  simp only[mI,List.mem_append] at a;rcases a with a | a
  .unfold refsOf at a;obtain⟨b,h,rfl⟩:=List.mem_map.1 a;exact⟨0,Ah,Ah,b,by simpa using h,rfl⟩
  .obtain⟨e,g,i,b,j,k⟩:=agI c (f+1) d a;exact⟨e+1,by simpa using g,by rw[i];congr 1;omega,b,by simpa using j,k⟩
def awD{m:Model}{r:Ref}(h:r∈refs m):∃g a b,YG m r g a b:=by
 obtain⟨d,i,j,b,c,k⟩:=agI _ _ _ h;have e:=qM (insts m)[d] (ID _);obtain⟨a,f⟩:=T7 e.aQ;have l:a<m.procs.length:=by have:=e.ab;omega
 refine⟨d,a,b,i,by rw[j];simp,f,l,k,?_⟩;unfold p4 at c;rw[f,ir AW AW] at c;simpa using c
def U0{p:ee}{s:Scope}(h:(iH p s).2.2=0):whole p s=0/\(mG p s).2=0/\(mT (inner p s) p.cb p.cL p.cL 0).2.2=0:=by
 unfold iH at h;by_cases a:whole p s≠0
 .rw[if_pos a] at h;exact absurd h a
 rw[if_neg a] at h;by_cases b:(mG p s).2≠0
 .rw[if_pos b] at h;exact absurd h b
 rw[if_neg b] at h;exact⟨by simpa using a,by simpa using b,h⟩
theorem JI{g:Scope}{h:Int}{i:C_ et}:∀(d:C_ et) (c:Nat),(mT g h i d c).2.2=0->∀a (e:a<d.length),(jP d[a] h g).2=0/\(i.take (c+a)).any (λj=>decide (j.name=d[a].name))=false
 | [],_,_,a,e=>by simp at e
 | l :: m,c,b,a,e=>by
  simp only[mT] at b;by_cases f:(jP l h g).2≠0
  .rw[if_pos f] at b;exact absurd b f
  rw[if_neg f] at b;by_cases k:(i.take c).any (λj=>decide (j.name=l.name))=true
  .rw[if_pos k] at b;cases b
  rw[if_neg k] at b;cases a with
  | zero=>exact⟨by simpa using f,by simpa using k⟩
  | succ a =>
   have:=JI m (c+1) b a (by simpa using e)
   simpa[Nat.add_assoc,Nat.add_comm 1 a] using this
def z6{α:Type}{l:C_ α}{n:Int}{x:α}(h:nth l n=some x):0<=n/\l[n.toNat]? = some x/\n.toNat<l.length:=by
 unfold nth at h;by_cases a:0<=n
 .rw[if_pos a] at h;exact⟨a,h,(List.getElem?_eq_some_iff.1 h).1⟩
 .rw[if_neg a] at h;cases h
def asI{n:Int}{s:Scope}(h:(h9 n s).2=true):0<=n/\n<=s.scalars.length/\(h9 n s).1=if n=0 then 0 else 1+n:=by
 unfold h9 at h ⊢;by_cases a:n=0
 .subst a;simp
 .rw[if_neg a] at h ⊢;by_cases b:n<0\/(s.scalars.length:Int)<n
  .rw[if_pos b] at h;cases h
  .rw[if_neg b,if_neg a];exact⟨AW,AW,rfl⟩
theorem asQ{l:C_ Var}{n:Int}{s:Scope}(h:(fQ l n s).2.2=true):∃a,nth l n=some a/\l[n.toNat]? = some a/\0<=n/\fQ l n s=((h9 a.scalar s).1,(h9 a.over s).1,true)/\(h9 a.scalar s).2=true/\(h9 a.over s).2=true:=by
 unfold fQ at h ⊢;cases b:nth l n with
 | none=>rw[b] at h;cases h
 | some a =>
  rw[b] at h;simp only[Bool.and_eq_true] at h;obtain⟨c,d,_⟩:=z6 b;exact⟨a,rfl,d,c,by simp only[h.1,h.2,Bool.and_self],h.1,h.2⟩
def oa(a n:Nat):C_ Int:=(List.range n).map λ(b:Nat)=>((a+b:Nat):Int)
def Vm(a:Nat):oa a 1=[(a:Int)]:=by simp[oa]
def ag1{a n:Nat}{x:Int}:x∈oa a n↔(a:Int)<=x/\x<((a+n:Nat):Int):=by
 constructor
 .intro b;obtain⟨d,c,rfl⟩:=List.mem_map.1 b
  have:=List.mem_range.1 c
  omega
 .intro b;refine List.mem_map.2 ⟨(x - a).toNat,List.mem_range.2 AW,AW⟩
structure azv(l:List Int)(last:Int)(out:List Int):Prop where
 avG:out.Pairwise (· < ·)
 mem:∀x,x∈out↔x∈l/\x<=last
 last : -1<=last
structure PQ(l r:List Int):Prop where
 avG:r.Pairwise (· < ·)
 mem:∀x,x∈r↔x∈l
def zY(m:Model)(v:Nat):Nat:=match m.vars[v]? with | some a=>(cells a m.scalars).toNat | none=>0
def QX(m:Model)(q:Nat):Nat:=match (insts m)[q]? with | some a=>a.elem.toNat | none=>0
def gq(m:Model)(c:Nat):Nat:=match m.ay[c]? with | some a=>a.cap.toNat | none=>0
def TS(m:Model)(q v:Nat)(a:Bool):C_ Int:=if a then oa (dU m v+QX m q - 1) 1 else oa (dU m v) (zY m v)
def ajZ(m:Model)(p:Int)(n:Nat):C_ Int:=(List.range n).flatMap λa=>if (insts m)[a]?.map (·.proc)=some p then oa (b7 m a) 1 else []
def aua(m:Model)(q:Nat)(a:Bool)(x:Node):C_ Int :=
 if x.op=2 then oa (dU m x.n.toNat) 1
 else if x.op=3 then TS m q x.n.toNat a
 else if x.op=4 then oa (b7 m q+1+x.n.toNat) 1
 else if x.op=6 then oa (bT m x.n.toNat) 1
 else if x.op=7 then ajZ m (x.n.tdiv 16) (insts m).length
 else []
def auW(e:C_ Node):Nat->Bool
 | 0=>false
 | a+1=>match e[a]? with | some b=>decide (b.op=5) | none=>false
def Q6(m:Model)(q:Nat)(e:C_ Node)(n:Nat):C_ Int:=(List.range n).flatMap λa=>match e[a]? with | some b=>aua m q (auW e a) b | none=>[]
def C7(m:Model)(c:Nat):C_ Int:=oa (bT m c) (1+gq m c)
def Ow(a:Act):Bool:=match a.index with | [b]=>decide (b.op=5) | _=>false
def ajv(m:Model)(q:Nat)(a:Act):C_ Int :=
 if a.kind=5 then C7 m a.to.toNat
 else (if a.kind=2 then Q6 m q a.index a.index.length else if a.kind=4 then oa (bT m a.to.toNat) 1 else [])++Q6 m q a.value a.value.length
def Jl(m:Model)(q:Nat)(a:Act):C_ Int :=
 if a.kind=1 then oa (dU m a.to.toNat) 1
 else if a.kind=2 then TS m q a.to.toNat (Ow a)
 else if a.kind=3 then oa (b7 m q+1+a.to.toNat) 1
 else if a.kind=4 then C7 m a.to.toNat
 else if a.kind=5 then C7 m a.to.toNat++oa (b7 m q+1+a.loc.toNat) 1
 else []
def abO(m:Model)(q:Nat)(c:et):C_ Int:=oa (b7 m q) 1++Q6 m q c.guard c.guard.length
def awi(m:Model)(q:Nat)(c:et)(n:Nat):C_ Int:=abO m q c++(c.b6.take n).flatMap (ajv m q)
def Wa(m:Model)(q:Nat)(c:et)(n:Nat):C_ Int:=oa (b7 m q) 1++(c.b6.take n).flatMap (Jl m q)
structure PJ(s:Scope)(x:Node):Prop where
 var:x.op=2->0<=x.n/\∃v,s.vars[x.n.toNat]? = some v/\v.over=0
 item:x.op=3->0<=x.n/\x.n.toNat<s.vars.length
 loc:x.op=4->0<=x.n/\x.n.toNat<s.locals.length
 self:x.op=5->1<=s.self/\s.self<=s.scalars.length
 len:x.op=6->0<=x.n/\x.n.toNat<s.ay.length
 at_:x.op=7->0<=x.n/\(x.n.tdiv 16).toNat<s.procs.length
structure Fa(s:Scope)(e:List Node):Prop where
 node:∀k (h:k<e.length),PJ s e[k]/\(e[k].op=3->0<k)
 len:e.length<=24
def as4{s:Scope}{x:Node}{j:Int}(h:(hf x s j).2=0):PJ s x:=by
 unfold hf at h;by_cases m:x.op=1
 .exact⟨AW,AW,AW,AW,AW,AW⟩
 rw[if_neg m] at h;by_cases k:x.op=2\/x.op=3\/x.op=4
 .rw[if_pos k] at h;simp only at h;by_cases f:(fQ (if x.op=4 then s.locals else s.vars) x.n s).2.2=false
  .rw[if_pos f] at h;cases h
  rw[if_neg f] at h;obtain⟨d,t,g,i,n,u,p⟩:=asQ (by simpa using f);obtain⟨v,w,q⟩:=asI p;rw[n] at h;simp only at h;have e:=(List.getElem?_eq_some_iff.1 g).1;by_cases l:(x.op=3/\((h9 d.over s).1=0\/j≠(h9 d.over s).1))\/(x.op≠3/\(h9 d.over s).1≠0)
  .rw[if_pos l] at h;cases h
  .refine⟨λa=>⟨i,d,?_,?_⟩,λa=>⟨i,?_⟩,λa=>⟨i,?_⟩,AW,AW,AW⟩
   .rw[if_neg AW] at g;exact g
   .have:(h9 d.over s).1=0:=Classical.byContradiction λb=>l (.inr ⟨AW,b⟩)
    rw[q] at this;split at this
    .assumption
    .omega
   .rw[if_neg AW] at e;exact e
   .rw[if_pos a] at e;exact e
 .rw[if_neg k] at h;unfold kU at h;refine⟨AW,AW,AW,λa=>?_,λa=>?_,λa=>?_⟩
  .rw[if_pos a] at h;by_cases c:1<=s.self/\s.self<=s.scalars.length
   .exact c
   .rw[if_neg c] at h;cases h
  .rw[if_neg AW,if_pos a] at h;unfold kT at h;cases b:nth s.ay x.n with
   | none=>rw[b] at h;cases h
   | some r=>exact⟨(z6 b).1,(z6 b).2.2⟩
  .rw[if_neg AW,if_neg AW,if_pos a] at h;unfold zW at h;by_cases c:0<=x.n
   .rw[if_pos c] at h;cases b:nth s.procs (x.n.tdiv 16) with
    | none=>rw[b] at h;cases h
    | some r=>exact⟨c,(z6 b).2.2⟩
   .rw[if_neg c] at h;cases h
def asB{e:C_ Node}{s:Scope}(h:(kind e s).2=0):Fa s e:=by
 unfold kind ma at h;by_cases j:e.length > 24
 .rw[if_pos j] at h;cases h
 rw[if_neg j] at h;by_cases p:e.length=0
 .exact⟨λa k=>AW,AW⟩
 rw[if_neg p] at h;by_cases d:(e7 (gC s) e []).1≠0
 .rw[if_pos d] at h;exact absurd h d
 have d:(e7 (gC s) e []).1=0:=by simpa using d
 refine⟨λa k=>?_,AW⟩;have l:∀g,(e7 (gC s) (e.take g) []).1=0:=λg=>Classical.byContradiction λi=>by
  have:=ag7 (f:=gC s) (e:=e) (k:=g) rfl i
  rw[this] at d;exact i d
 have q:e7 (gC s) (e.take a) []=(0,(e7 (gC s) (e.take a) []).2):=Prod.ext (l a) rfl;have r:=EB k q;have b:=l (a+1);rw[r] at b;unfold stepG at b;by_cases m:ej e[a].op<0
 .rw[if_pos m] at b;cases b
 rw[if_neg m] at b;by_cases f:((e7 (gC s) (e.take a) []).2.length:Int)<ej e[a].op
 .rw[if_pos f] at b;cases b
 rw[if_neg f] at b;by_cases c:(gC s e[a] (e7 (gC s) (e.take a) []).2).2≠0
 .rw[if_pos c] at b;exact absurd b c
 have c:(gC s e[a] (e7 (gC s) (e.take a) []).2).2=0:=by simpa using c
 constructor
 .by_cases n:BN e[a].op=false
  .unfold gC at c;rw[afM n] at c;exact as4 c
  .have:9<=e[a].op:=by
    simp only[BN,decide_eq_false_iff_not] at n;omega
   exact⟨AW,AW,AW,AW,AW,AW⟩
 .intro t;apply Classical.byContradiction;intro i;have u:a=0:=AW
  subst u;rw[t] at f;simp[e7,ej] at f
def Jp{e:C_ Node}{k:Int}{s:Scope}(h:asked e k s=0):Fa s e:=by
 unfold asked at h;by_cases a:(kind e s).2≠0
 .rw[if_pos a] at h;exact absurd h a
 .exact asB (by simpa using a)
structure q3(s:Scope)(a:Act):Prop where
 set:a.kind=1->0<=a.to/\∃v,s.vars[a.to.toNat]? = some v/\v.over=0
 item:a.kind=2->0<=a.to/\a.to.toNat<s.vars.length/\Fa s a.index
 loc:a.kind=3->0<=a.to/\a.to.toNat<s.locals.length
 chan:a.kind=4\/a.kind=5->0<=a.to/\a.to.toNat<s.ay.length
 recv:a.kind=5->0<=a.loc/\a.loc.toNat<s.locals.length
 val:a.kind≠5->Fa s a.value
 kind:1<=a.kind/\a.kind<=5
theorem QL{l:C_ Var}{n:Int}{s:Scope}{q:Var×Int}(h:declared l n s=some q):0<=n/\l[n.toNat]? = some q.1/\n.toNat<l.length:=by
 unfold declared at h;cases a:nth l n with
 | none=>rw[a] at h;cases h
 | some b =>
  rw[a] at h;simp only at h;split at h
  .injection h with h
   subst h;exact z6 a
  .cases h
def ajx{a:Act}{s:Scope}(h:lx a s=0):q3 s a:=by
 unfold lx at h;by_cases n:a.kind=1\/a.kind=2\/a.kind=3
 .rw[if_pos n] at h;cases e:declared (if a.kind=3 then s.locals else s.vars) a.to s with
  | none=>rw[e] at h;cases h
  | some j =>
   rw[e] at h;obtain⟨k,p⟩:=j;obtain⟨g,m,f⟩:=QL e;simp only at h;by_cases b:(k.over≠0)≠(a.kind=2)
   .rw[if_pos b] at h;cases h
   rw[if_neg b] at h;have b:(k.over≠0)=(a.kind=2):=Classical.byContradiction λj=>b j;by_cases l:a.kind=2/\asked a.index (1+k.over) s≠0
   .rw[if_pos l] at h;exact absurd h l.2
   rw[if_neg l] at h;refine⟨λc=>⟨g,k,?_,?_⟩,λc=>⟨g,?_,?_⟩,λc=>⟨g,?_⟩,AW,AW,λ_=>Jp h,AW⟩
   .rw[if_neg AW] at m;exact m
   .apply Classical.byContradiction;intro d
    have:a.kind=2:=b ▸ d
    omega
   .rw[if_neg AW] at f;exact f
   .exact Jp (Classical.byContradiction λd=>l ⟨c,d⟩)
   .rw[if_pos c] at f;exact f
 .rw[if_neg n] at h;by_cases b:a.kind=4\/a.kind=5
  .rw[if_pos b] at h;cases i:channel a.to s with
   | none=>rw[i] at h;cases h
   | some p =>
    rw[i] at h;simp only at h;have q:0<=a.to/\a.to.toNat<s.ay.length:=by
     unfold channel at i;cases d:nth s.ay a.to with
     | none=>rw[d] at i;cases i
     | some r=>exact⟨(z6 d).1,(z6 d).2.2⟩
    refine⟨AW,AW,AW,λ_=>q,λc=>?_,λc=>?_,AW⟩
    .rw[if_pos c] at h;unfold Eu at h;cases e:declared s.locals a.loc s with
     | none=>rw[e] at h;cases h
     | some j =>
      obtain⟨g,m,f⟩:=QL e;exact⟨g,f⟩
    .rw[if_neg c] at h;exact Jp h
  .rw[if_neg b] at h;cases h
structure E6(s:Scope)(c:et):Prop where
 guard:Fa s c.guard
 act:∀k (h:k<c.b6.length),q3 s c.b6[k]
 g2:c.b6.length<=6
theorem Zm{s:Scope}:∀(d:C_ Act) (f:Nat) (e:Bool),(mm s d f e).2=0->∀b (a:b<d.length),q3 s d[b]
 | [],_,_,_,b,a=>by simp at a
 | g :: i,f,e,a,b,j=>by
  unfold mm at a;by_cases h:(h2 g&&e)=true
  .rw[if_pos h] at a;cases a
  rw[if_neg h] at a;by_cases c:lx g s≠0
  .rw[if_pos c] at a;exact absurd a c
  rw[if_neg c] at a;cases b with
  | zero=>exact ajx (by simpa using c)
  | succ b=>exact Zm i _ _ a b (by simpa using j)
def alx{c:et}{a:Int}{s:Scope}(h:(jP c a s).2=0):E6 s c:=by
 unfold jP at h;by_cases b:head c a≠0
 .rw[if_pos b] at h;exact absurd h b
 rw[if_neg b] at h;by_cases d:c.guard.length > 0/\asked c.guard 1 s≠0
 .rw[if_pos d] at h;exact absurd h d.2
 rw[if_neg d] at h;refine⟨?_,Zm _ _ _ h,?_⟩
 .by_cases i:c.guard.length > 0
  .exact Jp (Classical.byContradiction λe=>d ⟨i,e⟩)
  .exact⟨λj k=>AW,AW⟩
 .apply Classical.byContradiction;intro e;apply b;unfold head;by_cases f:isName c.name=false
  .rw[if_pos f];decide
  rw[if_neg f];by_cases g:c.from_<0\/a<=c.from_\/c.to<0\/a<=c.to
  .rw[if_pos g];decide
  rw[if_neg g,if_pos AW];decide
def QB{m:Model}(h:(check m).bN=0):(oQ m).bN=0:=by
 unfold check at h;by_cases a:(data m).bN≠0
 .rw[if_pos a] at h;exact absurd h a
 rw[if_neg a] at h;apply Classical.byContradiction;intro b;rw[if_pos b] at h;exact b h
def alC{m:Model}(h:(check m).bN=0){p k:Nat}(a:p<m.procs.length)(c:k<m.procs[p].cL.length):E6 (inner m.procs[p] (fw m)) m.procs[p].cL[k]:=by
 obtain⟨d,_,_⟩:=N9 (QB h);obtain⟨_,e,_,_⟩:=Dg a (d p a);obtain⟨_,_,f⟩:=U0 e;have g:h0 m (p:Int)=inner m.procs[p] (fw m):=by
  unfold h0;rw[ir AW AW];rfl
 have b:=(JI _ _ f k c).1;rw[g] at b;exact alx b
def val:C_ Nat->Nat
 | []=>0
 | a :: b=>a+256*val b
def JV(n:Nat):C_ Nat:=if a:n=0 then [] else n % 256 :: JV (n / 256)
termination_by n
decreasing_by omega
def afE:C_ Cell->C_ Int->Nat->Nat
 | a :: c,d :: e,b=>afE c e (b*(a.ab - a.aQ+1).toNat+(d - a.aQ).toNat)
 | _,_,b=>b
def num(m:Model)(s:C_ Int):Nat:=afE (bD m) s 0
def fR(m:Model):Nat:=num m ((bD m).map (·.ab))
def akq(m:Model):Nat:=(JV (fR m)).length
def fixed(k n:Nat):C_ Nat:=JV n++List.replicate (k - (JV n).length) 0
def bytes(m:Model)(s:C_ Int):C_ Nat:=(fixed (akq m) (num m s)).reverse
def wG(m:Model):C_ (C_ Int):=m.vars.map (OW m)
def FU(m:Model):C_ (C_ Int):=m.ay.map Qw
def wg(m:Model):C_ (C_ Int):=(insts m).map (pj m)
theorem Rm:∀(e:C_ (C_ Int)) (c:C_ (C_ ec)),e.map List.length=c.map List.length->∀(a b:Nat) (g:a<e.length) (d:b<e[a].length),e.flatten[total (c.take a)+b]? = some e[a][b]
 | [],_,_,a,_,g,_=>by simp at g
 | h :: i,[],f,_,_,_,_=>by simp at f
 | h :: i,j :: c,f,0,b,_,d=>by
  simp only[List.take_zero,List.flatten_cons,total,List.map_nil,List.sum_nil,Nat.zero_add,List.getElem_cons_zero] at d ⊢;rw[List.getElem?_append_left d,List.getElem?_eq_getElem d]
 | h :: i,j :: c,f,a+1,b,g,d=>by
  simp only[List.map_cons,List.cons.injEq] at f;simp only[List.take_succ_cons,List.flatten_cons,Aj,List.getElem_cons_succ] at d ⊢;rw[List.getElem?_append_right AW,show j.length+total (c.take a)+b - h.length=total (c.take a)+b from AW];exact Rm i c f.2 a b (by simpa using g) d
def mW{a:C_ (C_ Int)}{B:C_ (C_ ec)}(h:a.map List.length=B.map List.length):a.flatten.length=total B:=by
 rw[List.length_flatten,h];rfl
def Am(m:Model):(wG m).map List.length=(bU m).map List.length:=by
 simp[wG,bU,List.map_map,Function.comp_def,OW,vd]
def FV(m:Model):(FU m).map List.length=(cn m).map List.length:=by
 simp[FU,cn,List.map_map,Function.comp_def,Qw,o7]
theorem asa(m:Model)(x:c7):(pj m x).length=(kj m x).length:=by
 unfold pj kj;cases nth m.procs x.proc<;>simp[kX]
def aen(m:Model):(wg m).map List.length=(dH m).map List.length:=by
 simp[wg,dH,List.map_map,Function.comp_def,asa]
def Kk(m:Model):dp m=(wG m).flatten++(FU m).flatten++(wg m).flatten:=by
 simp[dp,wG,FU,wg,List.flatMap_def]
def Re(m:Model):(dp m).length=cG m:=by
 rw[Kk,Jv,Jv,mW (Am m),mW (FV m),mW (aen m),nu]
def Rg{m:Model}{i j:Nat}(a:i<m.vars.length)(f:(j:Int)<cells m.vars[i] m.scalars):(dp m)[dU m i+j]? = some m.vars[i].init:=by
 have c:i<(wG m).length:=by simpa[wG] using a
 have b:(wG m)[i]=List.replicate (cells m.vars[i] m.scalars).toNat m.vars[i].init:=by simp[wG,OW]
 have d:j<(wG m)[i].length:=by rw[b,AG0];omega
 have e:=Rm (wG m) (bU m) (Am m) i j c d;have g:=qZ a;rw[Kk,VA,List.getElem?_append_left (by rw[mW (Am m)];omega)];unfold dU;rw[e];simp[b]
def Kl{m:Model}{c:Nat}(d:total (bU m)<=c)(g:c<total (bU m)+total (cn m)):(dp m)[c]? = some 0:=by
 rw[Kk,List.getElem?_append_left (by rw[Jv,mW (Am m),mW (FV m)];omega),List.getElem?_append_right (by rw[mW (Am m)];exact d),mW (Am m)];have a:c - total (bU m)<(FU m).flatten.length:=by rw[mW (FV m)];omega
 rw[List.getElem?_eq_getElem a];have b:=ID a;rw[List.mem_flatten] at b;obtain⟨h,e,f⟩:=b;obtain⟨i,_,rfl⟩:=List.mem_map.1 e;rw[(List.mem_replicate.1 f).2]
def Gb{m:Model}{i j:Nat}(b:i<(insts m).length)(c:j<(pj m (insts m)[i]).length):(dp m)[b7 m i+j]? = some (pj m (insts m)[i])[j]:=by
 have d:i<(wg m).length:=by simpa[wg] using b
 have a:(wg m)[i]=pj m (insts m)[i]:=by simp[wg]
 have e:j<(wg m)[i].length:=by rw[a];exact c
 have f:=Rm (wg m) (dH m) (aen m) i j d e;rw[Kk,List.getElem?_append_right (by rw[Jv,mW (Am m),mW (FV m)];unfold b7;omega),Jv,mW (Am m),mW (FV m)];unfold b7;rw[show total (bU m)+total (cn m)+total ((dH m).take i)+j - (total (bU m)+total (cn m))=total ((dH m).take i)+j from AW,f];simp[a]
def pre(a:C_ Int)(d:Nat):C_ Int:=a.take d++List.replicate (a.length - d) 0
def N8{a:C_ Int}{d:Nat}(h:d<=a.length):(pre a d).length=a.length:=by simp[pre];omega
def avv(a:C_ Int):pre a 0=List.replicate a.length 0:=by simp[pre]
def avu(a:C_ Int):pre a a.length=a:=by simp[pre]
def UY{a:C_ Int}{d:Nat}{x:Int}(h:a[d]? = some x):(pre a d).set d x=pre a (d+1):=by
 obtain⟨c,rfl⟩:=List.getElem?_eq_some_iff.1 h;apply List.ext_getElem?;intro b;unfold pre;by_cases e:b<d
 .rw[List.getElem?_set_ne AW,List.getElem?_append_left (by simp;omega),List.getElem?_append_left (by simp;omega),List.getElem?_take_of_lt e,List.getElem?_take_of_lt AW]
 .by_cases f:b=d
  .subst f;rw[List.getElem?_set_self (by simp;omega),List.getElem?_append_left (by simp;omega),List.getElem?_take_of_lt AW,List.getElem?_eq_getElem c]
  .rw[List.getElem?_set_ne AW,List.getElem?_append_right (by simp;omega),List.getElem?_append_right (by simp;omega),List.getElem?_replicate,List.getElem?_replicate];simp only[List.length_take];have g:min d a.length=d:=AW
   have i:min (d+1) a.length=d+1:=AW
   rw[g,i];by_cases h:b<a.length
   .rw[if_pos AW,if_pos AW]
   .rw[if_neg AW,if_neg AW]
def agc{a:C_ Int}{d:Nat}(h:a[d]? = some 0):pre a d=pre a (d+1):=by
 rw[<-UY h];obtain⟨b,_⟩:=List.getElem?_eq_some_iff.1 h;apply List.ext_getElem?;intro c;by_cases e:c=d
 .subst e;rw[List.getElem?_set_self (by rw[N8 AW];exact b)];unfold pre;rw[List.getElem?_append_right (by simp only[List.length_take];omega),List.getElem?_replicate,if_pos (by simp only[List.length_take];omega)]
 .rw[List.getElem?_set_ne AW]
theorem agb{c:C_ Int}{d:Nat}:∀a,(∀b,d<=b->b<d+a->c[b]? = some 0)->pre c d=pre c (d+a)
 | 0,_=>rfl
 | a+1,e=>by
  rw[agb a λb f g=>e b f AW,agc (e (d+a) AW AW)];rfl
theorem wE{a:C_ Int}{d:Nat}{x:Int}(h:a[d]? = some x):a.take (d+1)=a.take d++[x]:=by
 obtain⟨b,rfl⟩:=List.getElem?_eq_some_iff.1 h;exact NZ b
def ait{m:Model}{i:Nat}(h:i<m.vars.length):dU m (i+1)=dU m i+(cells m.vars[i] m.scalars).toNat:=by
 have a:i<(bU m).length:=by simpa[bU] using h
 unfold dU;rw[Cq a];simp[bU,vd]
def ZY{m:Model}{i:Nat}(h:i<m.ay.length):bT m (i+1)=bT m i+(1+m.ay[i].cap.toNat):=by
 have a:i<(cn m).length:=by simpa[cn] using h
 unfold bT;rw[Cq a];simp[cn,o7];omega
def ael{m:Model}{i:Nat}(h:i<(insts m).length):b7 m (i+1)=b7 m i+(kj m (insts m)[i]).length:=by
 have a:i<(dH m).length:=by simpa[dH] using h
 unfold b7;rw[Cq a];simp[dH];omega
def ais{m:Model}{i:Nat}(h:m.vars.length<=i):dU m i=total (bU m):=by
 unfold dU;rw[Im (by simpa[bU] using h)]
def ZZ(m:Model):bT m 0=total (bU m):=by simp[bT,total]
def aku{m:Model}{i:Nat}(h:m.ay.length<=i):bT m i=total (bU m)+total (cn m):=by
 unfold bT;rw[Im (by simpa[cn] using h)]
def aem(m:Model):b7 m 0=total (bU m)+total (cn m):=by simp[b7,total]
def aek{m:Model}{i:Nat}(h:(insts m).length<=i):b7 m i=cG m:=by
 unfold b7;rw[Im (by simpa[dH] using h),nu]
theorem aeX(s w:Int):∀(b:C_ ec) (c a:Nat) (d:a<b.length),(fv s w b c)[a]? = some ⟨s,w,(c+a:Nat),b[a].aQ,b[a].ab,b[a].kind⟩
 | [],_,_,d=>by simp at d
 | e :: b,c,0,_=>by simp[fv]
 | e :: b,c,a+1,d=>by
  simp only[fv,List.getElem?_cons_succ,List.getElem_cons_succ];rw[aeX s w b (c+1) a (by simpa using d),show c+1+a=c+(a+1) from AW]
theorem w6(s:Int):∀(d:C_ (C_ ec)) (c a b:Nat) (f:a<d.length) (e:b<d[a].length),(cellsOf s d c)[total (d.take a)+b]? = some ⟨s,(c+a:Nat),b,d[a][b].aQ,d[a][b].ab,d[a][b].kind⟩
 | [],_,_,_,f,_=>by simp at f
 | g :: h,c,0,b,_,e=>by
  simp only[List.take_zero,total,List.map_nil,List.sum_nil,Nat.zero_add,List.getElem_cons_zero,cellsOf] at e ⊢;rw[List.getElem?_append_left (by rw[rN];exact e),aeX s c g 0 b e];simp
 | g :: h,c,a+1,b,f,e=>by
  simp only[List.take_succ_cons,Aj,List.getElem_cons_succ,cellsOf] at e ⊢;rw[List.getElem?_append_right (by rw[rN];omega),rN,show g.length+total (h.take a)+b - g.length=total (h.take a)+b from AW,w6 s h (c+1) a b (by simpa using f) e,show c+1+a=c+(a+1) from AW]
def ae1{m:Model}{k p:Nat}(d:k<(insts m).length)(j:p<m.procs.length)(e:kj m (insts m)[k]=kX m.scalars m.procs[p]):∃l:b7 m k<(bD m).length,(bD m)[b7 m k].aQ=0/\(bD m)[b7 m k].ab=m.procs[p].cb - 1:=by
 have f:k<(dH m).length:=by simpa[dH] using d
 have a:(dH m)[k]=kX m.scalars m.procs[p]:=by simp[dH,e]
 have g:0<(dH m)[k].length:=by rw[a,pt];omega
 have h:=w6 3 (dH m) 0 k 0 f g;have b:=Mn (m:=m) (c:=b7 m k) (by unfold b7;omega);rw[show b7 m k - (total (bU m)+total (cn m))=total ((dH m).take k)+0 from by unfold b7;omega,h] at b;obtain⟨i,c⟩:=List.getElem?_eq_some_iff.1 b;refine⟨i,?_,?_⟩
 .rw[c];simp only[a];rfl
 .rw[c];simp only[a];rfl
theorem Fits.loc{m:Model}{s:C_ Int}(h:Fits m s){k p:Nat}(e:k<(insts m).length)(f:p<m.procs.length)(g:kj m (insts m)[k]=kX m.scalars m.procs[p]):∃a:Nat,s[b7 m k]? = some (a:Int)/\(a:Int)<m.procs[p].cb:=by
 obtain⟨b,i,j⟩:=ae1 e f g;have c:b7 m k<s.length:=by rw[h.len];exact b
 have d:=h.cell _ c b;rw[i,j] at d;refine⟨s[b7 m k].toNat,?_,AW⟩;rw[List.getElem?_eq_getElem c,Int.toNat_of_nonneg d.1]
def ZE(m:Model)(s:C_ Int)(p l:Int)(k:Nat):s9 m s p l (k+1)=s9 m s p l k+if ((insts m)[k]?.map (·.proc))=some p/\s[b7 m k]? = some l then 1 else 0:=by
 unfold s9;rw[AI5,List.filter_append,Jv,List.filter_cons,List.filter_nil];by_cases a:((insts m)[k]?.map (·.proc))=some p/\s[b7 m k]? = some l
 .rw[decide_eq_true a,if_pos rfl,if_pos a];rfl
 .rw[decide_eq_false a,if_neg Ah,if_neg a];rfl
def wY(m:Model)(s:C_ Int)(p:Nat)(n:Int)(k:Nat):(ka m s p n k).length=n.toNat:=by simp[ka]
def FA{m:Model}{s:C_ Int}{p:Nat}{n:Int}{k d:Nat}(h:d<n.toNat):(ka m s p n k)[d]? = some ((s9 m s p d k:Nat):Int):=by
 simp[ka,h]
def ZH(m:Model)(s:C_ Int)(p:Nat)(n:Int):ka m s p n 0=List.replicate n.toNat 0:=by
 apply List.ext_getElem?;intro b;by_cases a:b<n.toNat
 .rw[FA a];simp[s9,a]
 .rw[List.getElem?_eq_none (by rw[wY];omega),List.getElem?_eq_none (by simp;omega)]
def ZF{m:Model}{s:C_ Int}{p:Nat}{n:Int}{k:Nat}(h:(insts m)[k]?.map (·.proc)≠some (p:Int)):ka m s p n (k+1)=ka m s p n k:=by
 unfold ka;apply AJ1;intro b _;rw[ZE,if_neg (λa=>h a.1),AH1]
def ZG{m:Model}{s:C_ Int}{p:Nat}{n:Int}{k d:Nat}(h:(insts m)[k]?.map (·.proc)=some (p:Int))(b:s[b7 m k]? = some (d:Int))(g:d<n.toNat):ka m s p n (k+1)=(ka m s p n k).set d ((s9 m s p d k:Nat)+1:Int):=by
 apply List.ext_getElem?;intro c;rw[List.getElem?_set];by_cases e:c<n.toNat
 .rw[FA e,ZE];by_cases a:d=c
  .subst a;rw[if_pos ⟨h,b⟩,if_pos rfl,if_pos (by rw[wY];exact g)];rfl
  .rw[if_neg (λi=>a (by have f:=i.2;rw[b] at f;have j:=Option.some.inj f;omega)),if_neg a,FA e,AH1]
 .rw[List.getElem?_eq_none (by rw[wY];omega),if_neg AW,List.getElem?_eq_none (by rw[wY];omega)]
def Qb(m:Model)(s:C_ Int)(p l:Int)(k:Nat):s9 m s p l k<=k:=by
 unfold s9;refine T6 (List.length_filter_le _ _) ?_;simp
end o