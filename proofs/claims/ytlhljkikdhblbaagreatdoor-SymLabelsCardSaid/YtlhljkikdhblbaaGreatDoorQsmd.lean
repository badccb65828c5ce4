/- Parts. -/
import Derived.Test.YtlhljkikdhblbaaGreatDoorQsmc
set_option linter.all false
set_option maxRecDepth 4000
namespace o
open Go
def inner(p:ed)(s:Scope):Scope:={ s with locals:=p.vars,self:=p.over }
def whole(p:ed)(s:Scope):Int :=
 if isName p.name=false then 6 else if p.over<0\/(s.scalars.length:Int)<p.over then 8 else if p.cb<1\/12<p.cb then 10 else if p.cP.length > 12 then 11 else 0
def rE(s:Scope):C_ Var->Nat->Int×Int
 | [],_=>(0,0)
 | b :: c,a=>if b.over≠0 then (a,9) else if s.vars.any (λd=>decide (d.name=b.name)) then (a,7) else rE s c (a+1)
def mB(p:ed)(s:Scope):Int×Int:=if (vars p.vars s.scalars 4).2≠0 then vars p.vars s.scalars 4 else rE s p.vars 0
def mR(a:Scope)(b:Int)(e:C_ ew):C_ ew->Nat->Int×Int×Int
 | [],_=>(0,0,0)
 | c :: f,d=>if (jJ c b a).2≠0 then (2+(d:Int),(jJ c b a).1,(jJ c b a).2)
  else if (e.take d).any (λg=>decide (g.name=c.name)) then (2+(d:Int),0,7) else mR a b e f (d+1)
def iB(p:ed)(s:Scope):Int×Int×Int :=
 if whole p s≠0 then (0,0,whole p s) else if (mB p s).2≠0 then (1,(mB p s).1,(mB p s).2) else mR (inner p s) p.cb p.cP p.cP 0
def fm(m:Model):Scope:=⟨m.scalars,m.vars,m.aA,m.procs,[],0⟩
def hS(m:Model)(i:Int):Scope:=match nth m.procs i with | some a=>inner a (fm m) | none=>fm m
def elems(m:Model)(p:ed):Nat:=match nth m.scalars (p.over - 1) with | some a=>if a.size<1\/4<a.size then 0 else a.size.toNat | none=>0
def F6(m:Model)(p:ed):elems m p<=4:=by
 unfold elems;split
 .split
  .omega
  .omega
 .omega
def ki(i:Nat)(n:Nat):C_ c9:=(List.range n).map λ(a:Nat)=>(⟨(i:Int),(a:Int)+1⟩:c9)
def jw(i:Nat)(p:ed):C_ c9:=if p.over=0 then [(⟨(i:Int),0⟩:c9)] else []
def ky(m:Model):C_ ed->Nat->C_ c9
 | [],_=>[]
 | b :: c,a=>jw a b++ki a (elems m b)++ky m c (a+1)
def insts(m:Model):C_ c9:=ky m m.procs 0
theorem agq(i n:Nat):ki i (n+1)=ki i n++[⟨(i:Int),(n:Int)+1⟩]:=by unfold ki;rw[AI8,AF9];rfl
def aeV{m:Model}{k:Nat}(h:k<m.procs.length):ky m (m.procs.drop k) k=jw k m.procs[k]++ki k (elems m m.procs[k])++ky m (m.procs.drop (k+1)) (k+1):=by
 rw[AG0 h];rfl
def avo(i:Nat)(p:ed):(jw i p).length<=1:=by unfold jw;split<;>simp
theorem aeX(m:Model):∀(b:C_ ed) (a:Nat),(ky m b a).length<=5*b.length
 | [],_=>by simp[ky]
 | c :: d,a=>by
  have:=aeX m d (a+1)
  have:=F6 m c
  have:=avo a c
  simp only[ky,List.length_append,List.length_cons,ki,List.length_map,List.length_range];omega
def ts(m:Model):(insts m).length<=5*m.procs.length:=aeX m _ _
structure c9.of(m:Model)(x:c9):Prop where
 aQ:0<=x.proc
 ab:x.proc<m.procs.length
 elem:0<=x.elem/\x.elem<=4
def avm{m:Model}{i:Nat}(c:i<m.procs.length){n:Nat}(e:n<=4):∀a∈ki i n,a.of m:=λa b=>by
 unfold ki at b;obtain⟨f,d,rfl⟩:=List.mem_map.1 b
 have:=List.mem_range.1 d
 exact⟨Ah,by simpa using c,by constructor<;>simp<;>omega⟩
def avp{m:Model}{i:Nat}(c:i<m.procs.length){p:ed}:∀b∈jw i p,b.of m:=λb a=>by
 unfold jw at a;split at a
 .rw[AH0] at a;subst a;exact⟨Ah,by simpa using c,Ah⟩
 .cases a
theorem aeY{m:Model}:∀(d:C_ ed) (c:Nat),c+d.length<=m.procs.length->∀b∈ky m d c,b.of m
 | [],_,_,b,a=>by simp[ky] at a
 | e :: f,c,g,b,a=>by
  simp only[ky,List.mem_append] at a;simp only[List.length_cons] at g;rcases a with (a | a) | a
  .exact avp AY b a
  .exact avm AY (F6 m e) b a
  .exact aeY f (c+1) AY b a
def qJ{m:Model}:∀a∈insts m,a.of m:=aeY _ _ Ah
def p2(m:Model)(x:c9):Nat:=match nth m.procs x.proc with | some a=>a.cP.length | none=>0
def refsOf(i:Int)(n:Nat):C_ Ref:=(List.range n).map λ(a:Nat)=>(⟨i,(a:Int)⟩:Ref)
def ahm(i:Int)(n:Nat):refsOf i (n+1)=refsOf i n++[⟨i,(n:Int)⟩]:=by unfold refsOf;rw[AI8,AF9];rfl
def mE(m:Model):C_ c9->Nat->C_ Ref
 | [],_=>[]
 | b :: c,a=>refsOf a (p2 m b)++mE m c (a+1)
def refs(m:Model):C_ Ref:=mE m (insts m) 0
def aw4{m:Model}{l:C_ c9}{k:Nat}(h:k<l.length):mE m (l.drop k) k=refsOf k (p2 m l[k])++mE m (l.drop (k+1)) (k+1):=by
 rw[AG0 h];rfl
def nx(m:Model)(s:Int×c9×C_ Ref)(x:c9):Int×c9×C_ Ref:=((if x≠s.2.1 then s.1+1 else s.1),x,s.2.2++refsOf (if x≠s.2.1 then s.1+1 else s.1) (p2 m x))
structure tK where
 bK:Int
 part:Int
 item:Int
 sub:Int
deriving DecidableEq
def vE:tK:=⟨0,0,0,0⟩
abbrev H2(m:Model):C_ ByteArray:=m.scalars.map (·.name)
abbrev B5(m:Model)(i:Nat):C_ ByteArray:=(m.vars.take i).map (·.name)
abbrev B4(m:Model)(i:Nat):C_ ByteArray:=(m.aA.take i).map (·.name)
abbrev z5(m:Model)(i:Nat):C_ ByteArray:=(m.procs.take i).map (·.name)
abbrev UD(m:Model)(i:Nat):C_ ByteArray:=(m.props.take i).map (·.name)
abbrev tz(m:Model)(i:Nat):C_ ByteArray:=H2 m++B5 m i
abbrev oK(m:Model)(i:Nat):C_ ByteArray:=tz m m.vars.length++B4 m i
abbrev jV(m:Model)(i:Nat):C_ ByteArray:=oK m m.aA.length++z5 m i
abbrev tx(m:Model)(i:Nat):C_ ByteArray:=jV m m.procs.length++UD m i
def pB(m:Model):Nat->Int:=err 12 (nameAt (·.name) m.vars) (qX m.vars m.scalars)
def o1(m:Model):Nat->Int:=err 4 (nameAt (·.name) m.aA) (qo m.aA m.scalars)
def kt(m:Model)(i:Nat):Int:=if pB m i≠0 then pB m i else if nameAt (·.name) m.vars i∈tz m i then 7 else 0
def lq(m:Model)(i:Nat):Int:=if o1 m i≠0 then o1 m i else if nameAt (·.name) m.aA i∈oK m i then 7 else 0
def r6(m:Model)(p:ed)(k:Nat):Int:=if nameAt (·.name) p.vars k∈jV m m.procs.length then 7 else 0
def jn(m:Model)(i:Nat):Int×Int :=
 match m.procs[i]? with
 | none=>(0,0)
 | some a=>if 6<=i then (11,0)
  else if (iB a (hS m i)).2.2≠0 then ((iB a (hS m i)).2.2,16*(iB a (hS m i)).1+(iB a (hS m i)).2.1)
  else if a.name∈jV m i then (7,0)
  else if (first a.vars.length (r6 m a)).2≠0 then (7,16+(first a.vars.length (r6 m a)).1)
  else (0,0)
def l4(m:Model)(p:ed):Int:=if p.over=0 then 1 else size p.over m.scalars
def jz(l:C_ Int):Int:=l.foldl (· + ·) 0
def r2(c:eb):Int:=1+min (max c.cap 0) 4
def pieces(m:Model):Int×Int×Int :=
 (jz (m.procs.map (l4 m)),jz (m.procs.map λa=>l4 m a*a.cP.length),
  jz (m.vars.map (λb=>cells b m.scalars))+jz (m.aA.map r2)+jz (m.procs.map λa=>l4 m a*(1+a.vars.length)))
def ow(m:Model)(i:Nat):Int :=
 match m.props[i]? with
 | none=>0
 | some a=>if 8<=i then 11 else if isName a.name=false then 6 else if a.name∈tx m i then 7
  else if (kind a.expr (fm m)).2≠0 then (kind a.expr (fm m)).2 else if (kind a.expr (fm m)).1≠1 then 9 else 0
def data(m:Model):tK :=
 if (scalars m.scalars).2≠0 then ⟨(scalars m.scalars).2,1,(scalars m.scalars).1,0⟩
 else if (first m.vars.length (kt m)).2≠0 then ⟨(first m.vars.length (kt m)).2,2,(first m.vars.length (kt m)).1,0⟩
 else if (first m.aA.length (lq m)).2≠0 then ⟨(first m.aA.length (lq m)).2,3,(first m.aA.length (lq m)).1,0⟩
 else vE
def nw(m:Model):tK :=
 if (first m.procs.length λa=>(jn m a).1).2≠0 then ⟨(first m.procs.length λa=>(jn m a).1).2,4,(first m.procs.length λa=>(jn m a).1).1,(jn m (first m.procs.length λa=>(jn m a).1).1.toNat).2⟩
 else if 12<(pieces m).1\/64<(pieces m).2.2 then ⟨11,4,m.procs.length,0⟩ else vE
def qP(m:Model):tK:=if (first m.props.length (ow m)).2≠0 then ⟨(first m.props.length (ow m)).2,5,(first m.props.length (ow m)).1,0⟩ else vE
def check(m:Model):tK:=if (data m).bK≠0 then data m else if (nw m).bK≠0 then nw m else qP m
def Er{α:Type}{f:α->ByteArray}{l:C_ α}{i:Nat}(h:i<l.length):nameAt f l i=f l[i]:=by
 unfold nameAt;rw[List.getElem?_eq_getElem h];rfl
theorem at7{p:Nat->Prop}(h:∃b,p b):∃d,p d/\∀a,p a->d<=a:=by
 obtain⟨b,f⟩:=h
 induction b using Nat.strongRecOn with
 | _ b g =>
  by_cases e:∃a,a<b/\p a
  .obtain⟨a,i,c⟩:=e;exact g a i c
  .exact⟨b,f,λa c=>Nat.le_of_not_lt λj=>e ⟨a,j,c⟩⟩
def vF{n:Nat}{e:Nat->Int}(h:(first n e).2=0):∀a,a<n->e a=0:=by
 intro a c;apply Classical.byContradiction;intro d;obtain⟨j,b,f⟩:=at7 (p:=λa=>a<n/\e a≠0) ⟨a,c,d⟩;rw[j9 b.1 (λg k=>by
  apply Classical.byContradiction;intro i;exact absurd (f g ⟨AY,i⟩) AY) b.2] at h
 exact b.2 h
def abF{n:Nat}{e:Nat->Int}(h:(first n e).2≠0):∃a,a<n/\(first n e).1=(a:Int)/\(first n e).2=e a:=by
 unfold first at h ⊢
 split at h
 .rename_i a b;rw[List.find?_range_eq_some] at b;exact⟨a,by simpa using b.2.1,rfl,rfl⟩
 .exact absurd rfl h
def abt{α:Type}{f:α->ByteArray}{l:C_ α}{fR:Int}{mo mo':Nat->Int}{k i:Nat}(h:i<k)(j:mo i=mo' i):err fR (nameAt f (l.take k)) mo i=err fR (nameAt f l) mo' i:=by
 have c:∀a,a<k->nameAt f (l.take k) a=nameAt f l a:=λa m=>by unfold nameAt;rw[List.getElem?_take_of_lt m]
 unfold err;rw[c i h,j];have g:(∃a,a<i/\nameAt f (l.take k) a=nameAt f l i)↔(∃a,a<i/\nameAt f l a=nameAt f l i) :=
  ⟨λ⟨a,d,e⟩=>⟨a,d,by rw[<-c a AY];exact e⟩,λ⟨a,d,e⟩=>⟨a,d,by rw[c a AY];exact e⟩⟩
 by_cases b:∃a,a<i/\nameAt f l a=nameAt f l i
 .rw[if_pos (g.2 b),if_pos b]
 .rw[if_neg (λn=>b (g.1 n)),if_neg b]
def ay5{m:Model}{i:Nat}(g:i<m.vars.length)(d:∀a,a<i->pB m a=0):(vars (m.vars.take (i+1)) m.scalars 12).2=pB m i:=by
 unfold vars;have e:(m.vars.take (i+1)).length=i+1:=by simp;omega
 rw[e,show(max 12 0:Int)=12 from rfl,abE (e':=pB m) (λa b=>(abt (mo':=qX m.vars m.scalars) b (by unfold qX;rw[List.getElem?_take_of_lt b]):_=pB m a))];by_cases c:pB m i=0
 .rw[qt λa b=>by
   by_cases f:a=i
   .subst f;exact c
   .exact d a AY,c]
 .rw[j9 AY d c]
def alV{m:Model}{i:Nat}(g:i<m.aA.length)(d:∀a,a<i->o1 m a=0):(aA (m.aA.take (i+1)) m.scalars).2=o1 m i:=by
 unfold aA;have e:(m.aA.take (i+1)).length=i+1:=by simp;omega
 rw[e,abE (e':=o1 m) (λa b=>(abt (mo':=qo m.aA m.scalars) b (by unfold qo;rw[List.getElem?_take_of_lt b]):_=o1 m a))];by_cases c:o1 m i=0
 .rw[qt λa b=>by
   by_cases f:a=i
   .subst f;exact c
   .exact d a AY,c]
 .rw[j9 AY d c]
theorem ay4(m:Model):vars m.vars m.scalars 12=first m.vars.length (pB m):=rfl
theorem alT(m:Model):aA m.aA m.scalars=first m.aA.length (o1 m):=rfl
def Pl{m:Model}{i:Nat}(h:kt m i=0):pB m i=0:=by
 apply Classical.byContradiction;intro a;unfold kt at h;rw[if_pos a] at h;exact a h
def JY{m:Model}{i:Nat}(h:lq m i=0):o1 m i=0:=by
 apply Classical.byContradiction;intro a;unfold lq at h;rw[if_pos a] at h;exact a h
def abu{m:Model}{i:Nat}(h:kt m i=0):i<12:=by
 have h:=Pl h;unfold pB err at h;split at h
 .cases h
 .omega
def amO{m:Model}{i:Nat}(h:lq m i=0):i<4:=by
 have h:=JY h;unfold o1 err at h;split at h
 .cases h
 .omega
def Kt{m:Model}{i:Nat}(a:i<m.procs.length)(h:(jn m i).1=0):i<6:=by
 unfold jn at h;rw[List.getElem?_eq_getElem a] at h;simp only at h;split at h
 .cases h
 .omega
def anc{m:Model}{i:Nat}(a:i<m.props.length)(h:ow m i=0):i<8:=by
 unfold ow at h;rw[List.getElem?_eq_getElem a] at h;simp only at h;split at h
 .cases h
 .omega
def ahY{m:Model}(h:(scalars m.scalars).2=0):m.scalars.length<=2:=by
 unfold scalars at h
 have:=vF h
 apply Classical.byContradiction;intro b;have a:=this 2 AY;unfold err at a;rw[if_pos AY] at a;cases a
def size_le(k:Int)(s:C_ Scalar):0<=size k s/\size k s<=4:=by
 unfold size;split
 .split<;>omega
 .omega
def r3(v:Var)(s:C_ Scalar):0<=cells v s/\cells v s<=4:=by
 have:=size_le v.over s
 unfold cells;split<;>omega
def Ia(m:Model)(p:ed):0<=l4 m p/\l4 m p<=4:=by
 have:=size_le p.over m.scalars
 unfold l4;split<;>omega
def QL(c:eb):1<=r2 c/\r2 c<=5:=by unfold r2;omega
def ayl(l:C_ Int)(x:Int):jz (l++[x])=jz l+x:=by unfold jz;simp
def IH{α:Type}(f:α->Int)(l:C_ α){k:Nat}(h:k<l.length):jz ((l.take (k+1)).map f)=jz ((l.take k).map f)+f l[k]:=by
 rw[Oi h,AF9,AH8,List.map_nil,ayl]
def IG{α:Type}(f:α->Int)(B:Int)(l:0<=B):∀(a:C_ α),(∀b∈a,0<=f b/\f b<=B)->0<=jz (a.map f)/\jz (a.map f)<=B*a.length:=by
 have e:∀(a:C_ α) (c:Int),(∀b∈a,0<=f b/\f b<=B)->c<=(a.map f).foldl (· + ·) c/\(a.map f).foldl (· + ·) c<=c+B*a.length:=by
  intro a
  induction a with
  | nil=>intro c _;simp
  | cons b m g =>
   intro c d;have n:=d b Ah;obtain⟨h,i⟩:=g (c+f b) λj k=>d j (by simp[k]);simp only[List.map_cons,List.foldl_cons,List.length_cons];rw[Int.natCast_succ,Int.mul_add];omega
 intro a d;obtain⟨h,i⟩:=e a 0 d;unfold jz;omega
end o
namespace o
def aaV{m:Model}(h:(scalars m.scalars).2≠0):data m=⟨(scalars m.scalars).2,1,(scalars m.scalars).1,0⟩:=by unfold data;rw[if_pos h]
def J9{m:Model}(b:(scalars m.scalars).2=0){i:Nat}(c:i<m.vars.length)(d:∀a,a<i->kt m a=0)(h:kt m i≠0):data m=⟨kt m i,2,i,0⟩:=by
 unfold data;rw[if_neg (by simpa using b),j9 c d h,if_pos h]
def J8{m:Model}(b:(scalars m.scalars).2=0)(c:∀a,a<m.vars.length->kt m a=0){i:Nat}(d:i<m.aA.length)(e:∀a,a<i->lq m a=0)(h:lq m i≠0):data m=⟨lq m i,3,i,0⟩:=by
 unfold data;rw[if_neg (by simpa using b),qt c,if_neg Ah,j9 d e h,if_pos h]
def aaU{m:Model}(b:(scalars m.scalars).2=0)(c:∀a,a<m.vars.length->kt m a=0)(d:∀a,a<m.aA.length->lq m a=0):data m=vE:=by
 unfold data;rw[if_neg (by simpa using b),qt c,if_neg Ah,qt d,if_neg Ah]
def Q1{m:Model}(h:(data m).bK=0):(scalars m.scalars).2=0/\(∀a,a<m.vars.length->kt m a=0)/\(∀a,a<m.aA.length->lq m a=0):=by
 unfold data at h;by_cases b:(scalars m.scalars).2=0
 .rw[if_neg (by simpa using b)] at h;by_cases c:(first m.vars.length (kt m)).2=0
  .rw[if_neg (by simpa using c)] at h;by_cases d:(first m.aA.length (lq m)).2=0
   .exact⟨b,vF c,vF d⟩
   .rw[if_pos d] at h;exact absurd h d
  .rw[if_pos c] at h;exact absurd h c
 .rw[if_pos b] at h;exact absurd h b
def F2{m:Model}(h:(data m).bK=0):m.scalars.length<=2/\m.vars.length<=12/\m.aA.length<=4:=by
 obtain⟨a,b,c⟩:=Q1 h;refine⟨ahY a,?_,?_⟩
 .apply Classical.byContradiction;intro d
  have:=abu (b 12 AY)
  omega
 .apply Classical.byContradiction;intro d
  have:=amO (c 4 AY)
  omega
def Ih{m:Model}{i:Nat}(b:i<m.procs.length)(c:∀a,a<i->(jn m a).1=0)(h:(jn m i).1≠0):nw m=⟨(jn m i).1,4,i,(jn m i).2⟩:=by
 unfold nw;rw[j9 (e:=λi=>(jn m i).1) b c h];simp only;rw[if_pos h];simp
def Va{m:Model}(b:∀a,a<m.procs.length->(jn m a).1=0):nw m=if 12<(pieces m).1\/64<(pieces m).2.2 then ⟨11,4,m.procs.length,0⟩ else vE:=by
 unfold nw;rw[qt (e:=λc=>(jn m c).1) b,if_neg Ah]
def Ox{m:Model}(h:(nw m).bK=0):(∀b,b<m.procs.length->(jn m b).1=0)/\(pieces m).1<=12/\(pieces m).2.2<=64:=by
 by_cases a:(first m.procs.length λd=>(jn m d).1).2=0
 .have c:=vF a;rw[Va c] at h;refine⟨c,?_⟩;by_cases e:12<(pieces m).1\/64<(pieces m).2.2
  .rw[if_pos e] at h;cases h
  .omega
 .unfold nw at h;rw[if_pos a] at h;exact absurd h a
def agO{m:Model}{i:Nat}(b:i<m.props.length)(c:∀a,a<i->ow m a=0)(h:ow m i≠0):qP m=⟨ow m i,5,i,0⟩:=by
 unfold qP;rw[j9 b c h,if_pos h]
def Vb{m:Model}(b:∀a,a<m.props.length->ow m a=0):qP m=vE:=by
 unfold qP;rw[qt b,if_neg Ah]
def Vc{m:Model}(h:(qP m).bK=0):∀b,b<m.props.length->ow m b=0:=by
 by_cases a:(first m.props.length (ow m)).2=0
 .exact vF a
 .unfold qP at h;rw[if_pos a] at h;exact absurd h a
def EU{α:Type}(f:α->ByteArray)(l:C_ α){k:Nat}(h:k<l.length):(l.take (k+1)).map f=(l.take k).map f++[f l[k]]:=by
 rw[Oi h,AF9];rfl
def Ri{m:Model}{i:Nat}(a:i<m.procs.length):jn m i=if 6<=i then (11,0)
  else if (iB m.procs[i] (hS m i)).2.2≠0 then ((iB m.procs[i] (hS m i)).2.2,16*(iB m.procs[i] (hS m i)).1+(iB m.procs[i] (hS m i)).2.1)
  else if m.procs[i].name∈jV m i then (7,0)
  else if (first m.procs[i].vars.length (r6 m m.procs[i])).2≠0 then (7,16+(first m.procs[i].vars.length (r6 m m.procs[i])).1)
  else (0,0):=by
 unfold jn;rw[List.getElem?_eq_getElem a]
def Ku{m:Model}{i:Nat}(a:i<m.props.length):ow m i=if 8<=i then 11 else if isName m.props[i].name=false then 6 else if m.props[i].name∈tx m i then 7
  else if (kind m.props[i].expr (fm m)).2≠0 then (kind m.props[i].expr (fm m)).2 else if (kind m.props[i].expr (fm m)).1≠1 then 9 else 0:=by
 unfold ow;rw[List.getElem?_eq_getElem a]
def anU(n:Nat)(e:Nat->Int):0<=(first n e).1/\(first n e).1<=n:=by
 unfold first
 split
 .rename_i b a;rw[List.find?_range_eq_some] at a
  have:=a.2.1
  simp at this;constructor<;>simp<;>omega
 .simp
theorem afK(s:Scope):∀(b:C_ Var) (a:Nat),0<=(rE s b a).1/\(rE s b a).1<=a+b.length
 | [],a=>by first | (simp[rE];done) | (simp[rE];omega)
 | d :: c,a=>by
  have:=afK s c (a+1)
  unfold rE;split
  .simp;omega
  .split
   .simp;omega
   .simp only[List.length_cons];omega
def avO(p:ed)(s:Scope):0<=(mB p s).1/\(mB p s).1<=p.vars.length:=by
 unfold mB;split
 .exact anU _ _
 .have:=afK s p.vars 0;omega
theorem ZD(s:Scope):∀(c:C_ Act) (a:Nat) (b:Bool),0<=(mi s c a b).1/\(mi s c a b).1<=2+a+c.length
 | [],a,b=>by first | (simp[mi];done) | (simp[mi];omega)
 | d :: e,a,b=>by
  have:=ZD s e (a+1) (b||hU d)
  unfold mi;split
  .simp;omega
  .split
   .simp;omega
   .simp only[List.length_cons];omega
def al7(c:ew)(a:Int)(s:Scope):0<=(jJ c a s).1/\(jJ c a s).1<=2+c.b6.length:=by
 unfold jJ;split
 .simp;omega
 .split
  .simp;omega
  .have:=ZD s c.b6 0 false;omega
theorem aaH(b:Scope)(c:Int)(e:C_ ew)(B:Nat):∀(d:C_ ew) (a:Nat),(∀f∈d,f.b6.length<=B)->0<=(mR b c e d a).1/\(mR b c e d a).1<=2+a+d.length/\0<=(mR b c e d a).2.1/\(mR b c e d a).2.1<=2+B
 | [],a,_=>by first | (simp[mR];done) | (simp[mR];omega)
 | f :: h,a,g=>by
  have k:=aaH b c e B h (a+1) λi j=>g i (by simp[j]);have l:=al7 f c b;have m:=g f Ah;unfold mR;split
  .simp only[List.length_cons];omega
  .split
   .simp only[List.length_cons];omega
   .simp only[List.length_cons];omega
def agN(p:ed)(s:Scope)(B:Nat)(h:∀a∈p.cP,a.b6.length<=B):0<=(iB p s).1/\(iB p s).1<=2+p.cP.length/\0<=(iB p s).2.1/\(iB p s).2.1<=2+B+p.vars.length:=by
 unfold iB;split
 .simp;omega
 .split
  .have:=avO p s
   simp only;omega
  .have:=aaH (inner p s) p.cb p.cP B p.cP 0 h
   omega
def U8{p:ed}{s:Scope}(h:(iB p s).2.2=0):p.vars.length<=4/\p.cP.length<=12/\whole p s=0/\(mB p s).2=0/\(mR (inner p s) p.cb p.cP p.cP 0).2.2=0:=by
 unfold iB at h;by_cases a:whole p s=0
 .rw[if_neg (by simpa using a)] at h;by_cases b:(mB p s).2=0
  .rw[if_neg (by simpa using b)] at h;refine⟨?_,?_,a,b,h⟩
   .have e:(vars p.vars s.scalars 4).2=0:=by
     apply Classical.byContradiction;intro c;unfold mB at b;rw[if_pos c] at b;exact c b
    apply Classical.byContradiction;intro c;have d:=vF e 4 AY;unfold err at d;rw[if_pos Ae] at d;cases d
   .apply Classical.byContradiction;intro c;unfold whole at a;split at a
    .cases a
    .split at a
     .cases a
     .split at a
      .cases a
      .rw[if_pos AY] at a;cases a
  .rw[if_pos b] at h;exact absurd h b
 .rw[if_pos a] at h;exact absurd h a
def Dm{m:Model}{i:Nat}(b:i<m.procs.length)(h:(jn m i).1=0):i<6/\(iB m.procs[i] (hS m i)).2.2=0/\¬m.procs[i].name∈jV m i/\(first m.procs[i].vars.length (r6 m m.procs[i])).2=0:=by
 rw[Ri b] at h;split at h
 .cases h
 .split at h
  .rename_i c a;exact absurd h a
  .split at h
   .cases h
   .split at h
    .cases h
    .rename_i c a d e;exact⟨AY,by simpa using a,d,by simpa using e⟩
end o
namespace o
open Go
structure ea where
 aQ:Int
 ab:Int
 kind:Int
structure Cell where
 sort:Int
 jg:Int
 place:Int
 aQ:Int
 ab:Int
 kind:Int
structure yM where
 vars:List Int
 aA:List Int
 insts:List Int
 cells:Int
 aQ:List Int
 ab:List Int
def kindOf(k:Int):Int:=if k=0 then 0 else k+1
def dJ(a b c:Int)(s:C_ Scalar):ea:=if a=0 then ⟨b,c,0⟩ else ⟨0,size a s,a+1⟩
theorem w6(v:Var)(s:C_ Scalar):dJ v.scalar v.aQ v.ab s=⟨(bounds v s).1,(bounds v s).2,kindOf v.scalar⟩:=by
 unfold dJ bounds kindOf;by_cases a:v.scalar=0
 .rw[if_pos a,if_pos a,if_pos a]
 .rw[if_neg a,if_neg a,if_neg a]
def qW(s:C_ Scalar)(v:Var):C_ ea:=List.replicate (cells v s).toNat (dJ v.scalar v.aQ v.ab s)
def j6(s:C_ Scalar)(c:eb):ea:=dJ c.scalar (min c.aQ 0) (max c.ab 0) s
def iH(s:C_ Scalar)(c:eb):C_ ea:=⟨0,c.cap,0⟩ :: List.replicate c.cap.toNat (j6 s c)
def kR(s:C_ Scalar)(p:ed):C_ ea:=⟨0,p.cb - 1,0⟩ :: p.vars.map λa=>dJ a.scalar a.aQ a.ab s
def kf(m:Model)(x:c9):C_ ea:=match nth m.procs x.proc with | some a=>kR m.scalars a | none=>[]
def fz(b c:Int):C_ ea->Nat->C_ Cell
 | [],_=>[]
 | a :: e,d=>⟨b,c,d,a.aQ,a.ab,a.kind⟩ :: fz b c e (d+1)
def cellsOf(a:Int):C_ (C_ ea)->Nat->C_ Cell
 | [],_=>[]
 | c :: d,b=>fz a b c 0++cellsOf a d (b+1)
def total(a:C_ (C_ ea)):Nat:=(a.map List.length).sum
def g0(n:Nat):C_ (C_ ea)->C_ Int
 | []=>[]
 | a :: b=>(n:Int) :: g0 (n+a.length) b
def bT(m:Model):C_ (C_ ea):=m.vars.map (qW m.scalars)
def cn(m:Model):C_ (C_ ea):=m.aA.map (iH m.scalars)
def dH(m:Model):C_ (C_ ea):=(insts m).map (kf m)
def bF(m:Model):C_ Cell:=cellsOf 1 (bT m) 0++cellsOf 2 (cn m) 0++cellsOf 3 (dH m) 0
def BW(V C cJ:C_ Int)(cs:C_ Cell):yM:=⟨V,C,cJ,cs.length,cs.map (·.aQ),cs.map (·.ab)⟩
def layout(m:Model):yM:=BW (g0 0 (bT m)) (g0 (total (bT m)) (cn m)) (g0 (total (bT m)+total (cn m)) (dH m)) (bF m)
def UM:yM:=⟨[],[],[],0,[],[]⟩
def lyz(m:Model):yM:=if (check m).bK=0 then layout m else UM
def kinds(m:Model):C_ Int:=if (check m).bK=0 then (bF m).map (·.kind) else []
theorem rD(s w:Int):∀(a:C_ ea) (b:Nat),(fz s w a b).length=a.length
 | [],_=>rfl
 | _ :: c,b=>by simp[fz,rD s w c]
theorem Uc(s w:Int)(b:ea):∀(c:C_ ea) (a:Nat),fz s w (c++[b]) a=fz s w c a++[⟨s,w,(a+c.length:Nat),b.aQ,b.ab,b.kind⟩]
 | [],a=>by simp[fz]
 | e :: d,a=>by
  simp only[List.cons_append,fz,Uc s w b d,List.length_cons];rw[show a+1+d.length=a+(d.length+1) from AY]
theorem atn{s w:Int}{l:C_ ea}{k:Nat}(h:k<l.length):fz s w (l.take (k+1)) 0=fz s w (l.take k) 0++[⟨s,w,k,l[k].aQ,l[k].ab,l[k].kind⟩]:=by
 rw[Oi h,Uc];simp[List.length_take,Nat.min_eq_left (Nat.le_of_lt h)]
theorem j5(s:Int):∀(a:C_ (C_ ea)) (b:Nat),(cellsOf s a b).length=total a
 | [],_=>rfl
 | d :: c,b=>by simp[cellsOf,rD,j5 s c,total]
theorem AV(s:Int)(x:C_ ea):∀(b:C_ (C_ ea)) (a:Nat),cellsOf s (b++[x]) a=cellsOf s b a++fz s (a+b.length:Nat) x 0
 | [],a=>by simp[cellsOf]
 | d :: c,a=>by
  simp only[List.cons_append,cellsOf,AV s x c,List.length_cons,List.append_assoc];rw[show a+1+c.length=a+(c.length+1) from AY]
def ayF(a:C_ (C_ ea))(x:C_ ea):total (a++[x])=total a+x.length:=by simp[total]
theorem O4(x:C_ ea):∀(b:C_ (C_ ea)) (a:Nat),g0 a (b++[x])=g0 a b++[((a+total b:Nat):Int)]
 | [],a=>by simp[g0,total]
 | d :: c,a=>by
  simp only[List.cons_append,g0,O4 x c,total,List.map_cons,List.sum_cons];rw[show a+d.length+(c.map List.length).sum=a+(d.length+(c.map List.length).sum) from AY]
theorem rK(n:Nat):∀(a:C_ (C_ ea)),(g0 n a).length=a.length:=by
 intro a
 induction a generalizing n with
 | nil=>rfl
 | cons c d b=>simp[g0,b]
theorem JW(s:Int):∀(f:C_ (C_ ea)) (c i a:Nat) (j:a<(cellsOf s f c).length),∃d e:Nat,∃(k:d<f.length) (l:e<f[d].length),(cellsOf s f c)[a]=⟨s,(c+d:Nat),e,f[d][e].aQ,f[d][e].ab,f[d][e].kind⟩/\(g0 i f)[d]? = some (((i+a - e:Nat)):Int)/\e<=a
 | [],c,i,a,g=>by simp[cellsOf] at g
 | b :: m,c,i,a,g=>by
  simp only[cellsOf,List.length_append,rD] at g;by_cases j:a<b.length
  .refine⟨0,a,Ah,by simpa using j,?_,by simp[g0],EM _⟩;have n:∀(b:C_ ea) (h a:Nat) (g:a<b.length) (p:a<(fz s c b h).length),(fz s c b h)[a]=⟨s,c,(h+a:Nat),b[a].aQ,b[a].ab,b[a].kind⟩:=by
    intro b
    induction b with
    | nil=>intro h a g;simp at g
    | cons u m q =>
     intro h a g p;cases a with
     | zero=>simp[fz]
     | succ a =>
      simp only[fz,List.getElem_cons_succ];rw[q (h+1) a (by simpa using g)];rw[show h+1+a=h+(a+1) from AY]
   simp only[cellsOf];rw[AJ4 (by rw[rD];exact j),n b 0 a j];simp
  .obtain⟨d,e,k,l,r,t,v⟩:=JW s m (c+1) (i+b.length) (a - b.length) AY;refine⟨d+1,e,by simpa using k,by simpa using l,?_,?_,AY⟩
   .simp only[cellsOf];rw[AJ5 (by rw[rD];omega)];simp only[rD];rw[r];simp only[List.getElem_cons_succ];rw[show c+1+d=c+(d+1) from AY]
   .simp only[g0,List.getElem?_cons_succ];rw[t];congr 2;omega
def zX(m:Model):(bF m).length=total (bT m)+total (cn m)+total (dH m):=by simp[bF,j5,Nat.add_assoc]
def jK(s:Int):C_ Cell->Nat->C_ Int
 | [],_=>[]
 | a :: c,b=>(if a.place=0/\a.sort=s then [(b:Int)] else [])++jK s c (b+1)
theorem Gf(s:Int):∀(c b:C_ Cell) (a:Nat),jK s (c++b) a=jK s c a++jK s b (a+c.length)
 | [],b,a=>by simp[jK]
 | e :: d,b,a=>by
  simp only[List.cons_append,jK,Gf s d b,List.append_assoc,List.length_cons];rw[show a+1+d.length=a+(d.length+1) from AY]
theorem abH(s c w:Int):∀(d:C_ ea) (a b:Nat),0<a->jK s (fz c w d a) b=[]
 | [],_,_,_=>rfl
 | f :: e,a,b,g=>by
  simp only[fz,jK];rw[if_neg (by simp;omega),abH s c w e (a+1) (b+1) AY];rfl
theorem KH(s:Int):∀(d:C_ (C_ ea)) (c a:Nat),(∀b∈d,b≠[])->jK s (cellsOf s d c) a=g0 a d
 | [],_,_,_=>rfl
 | [] :: f,c,a,e=>absurd rfl (e [] Ah)
 | (h :: b) :: f,c,a,e=>by
  simp only[cellsOf,fz,List.cons_append,jK,Gf];rw[if_pos Ah,abH s s c b 1 (a+1) AY,KH s f (c+1) _ (λb g=>e b (by simp[g]))];simp only[List.nil_append,g0,rD,List.singleton_append,List.length_cons];rw[show a+1+b.length=a+(b.length+1) from AY]
theorem A4(s b:Int)(f:s≠b):∀(h:C_ (C_ ea)) (d a:Nat),jK s (cellsOf b h d) a=[]
 | [],_,_=>rfl
 | c :: g,d,a=>by
  have i:∀(c:C_ ea) (e a:Nat),jK s (fz b d c e) a=[]:=by
   intro c
   induction c with
   | nil=>intro e a;rfl
   | cons k g j =>
    intro e a;simp only[fz,jK];rw[if_neg (by simp;exact λ_=>Ne.symm f),j];rfl
  simp only[cellsOf,Gf,i,A4 s b f g,List.append_nil]
theorem Ov{α:Type}[DecidableEq α]:∀(a b:C_ α),a.Nodup->b.length=a.length->(∀c∈a,c∈b)->b.Perm a
 | [],b,_,d,_=>by rw[AF8 d]
 | e :: a,b,f,d,g=>by
  have j:=g e (AG3 ..);have h:=List.perm_cons_erase j;have k:=h.length_eq;rw[List.nodup_cons] at f;simp only[List.length_cons] at d k;exact h.trans ((Ov a _ f.2 AY λc i=>(List.mem_erase_of_ne (λ(l:c=e)=>f.1 (l ▸ i))).2 (g c (AG4 _ i))).cons e)
structure eD(s:List Scalar)(f b:Int->Int->Int):Prop where
 kx:∀k e,1<=e->e<=size k s->1<=f k e/\f k e<=size k s
 out:∀k e,e<1\/size k s<e->f k e=e
 asB:∀k e,1<=e->e<=size k s->1<=b k e/\b k e<=size k s
 avk:∀k e,e<1\/size k s<e->b k e=e
 l:∀k e,b k (f k e)=e
 r:∀k e,f k (b k e)=e
theorem eD.symm{s:C_ Scalar}{f b:Int->Int->Int}(h:eD s f b):eD s b f:=⟨h.asB,h.avk,h.kx,h.out,h.r,h.l⟩
def eD.inj{s:C_ Scalar}{f b:Int->Int->Int}(h:eD s f b){k x y:Int}(e:f k x=f k y):x=y:=by rw[<-h.l k x,e,h.l]
def fp(f:Int->Int->Int)(k v:Int):Int:=if 2<=k then f (k - 1) v else v
def Ac(f:Int->Int->Int){k:Int}(v:Int)(h:k<2):fp f k v=v:=by unfold fp;rw[if_neg AY]
theorem wA{s:C_ Scalar}{f b:Int->Int->Int}(h:eD s f b)(k:Int):fp f k 0=0:=by
 unfold fp;split
 .exact h.out _ _ (.inl AY)
 .rfl
def Vv{s:C_ Scalar}{f b:Int->Int->Int}(h:eD s f b){k x y:Int}(e:fp f k x=fp f k y):x=y:=by
 unfold fp at e;split at e
 .exact h.inj e
 .exact e
theorem axa{s:C_ Scalar}{f b:Int->Int->Int}(h:eD s f b)(k x:Int):fp b k (fp f k x)=x:=by
 unfold fp;split
 .exact h.l _ _
 .rfl
def Ir{s:C_ Scalar}{f b:Int->Int->Int}(h:eD s f b)(a c d n:Int):((dJ a c d s).aQ<=fp f (dJ a c d s).kind n↔(dJ a c d s).aQ<=n)/\(fp f (dJ a c d s).kind n<=(dJ a c d s).ab↔n<=(dJ a c d s).ab):=by
 unfold dJ;split
 .rw[Ac _ _ (show(0:Int)<2 by decide)];exact⟨Iff.rfl,Iff.rfl⟩
 .rename_i g;simp only;unfold fp;rw[show a+1 - 1=a from AY];split
  .by_cases e:n<1\/size a s<n
   .rw[h.out _ _ e];exact⟨Iff.rfl,Iff.rfl⟩
   .have:=h.kx a n AY AY
    omega
  .exact⟨Iff.rfl,Iff.rfl⟩
structure CO(s:Scope)(f:Int->Int->Int)(v w:Env):Prop where
 plain:∀(i:Nat) (x:Var),s.vars[i]? = some x->x.over=0->∃l r,v.vars[i]? = some l/\w.vars[i]? = some r/\r[0]? = l[0]?.map (fp f (kindOf x.scalar))
 over:∀(i:Nat) (x:Var),s.vars[i]? = some x->x.over≠0->∃l r,v.vars[i]? = some l/\w.vars[i]? = some r/\∀e:Int,nth r (f x.over e - 1)=(nth l (e - 1)).map (fp f (kindOf x.scalar))
 locals:∀(i:Nat) (x:Var),s.locals[i]? = some x->w.locals[i]? = v.locals[i]?.map (fp f (kindOf x.scalar))
 lens:w.lens=v.lens
 at_:w.at_=v.at_
 self:w.self=fp f (kindOf s.self) v.self
def UQ{α:Type}{l:C_ α}{n:Int}{x:α}(h:nth l n=some x):0<=n/\l[n.toNat]? = some x:=by
 unfold nth at h;by_cases a:0<=n
 .rw[if_pos a] at h;exact⟨a,h⟩
 .rw[if_neg a] at h;cases h
theorem T6{n:Int}{s:Scope}(h:(h0 n s).2=true):(h0 n s).1=kindOf n/\0<=n:=by
 unfold h0 at h ⊢;unfold kindOf;by_cases a:n=0
 .subst a;simp
 .rw[if_neg a] at h ⊢;by_cases b:n<0\/(s.scalars.length:Int)<n
  .rw[if_pos b] at h;cases h
  .rw[if_neg b,if_neg a];simp only;omega
theorem T9{l:C_ Var}{n:Int}{s:Scope}(h:(fQ l n s).2.2=true):∃a,l[n.toNat]? = some a/\0<=n/\fQ l n s=(kindOf a.scalar,kindOf a.over,true)/\0<=a.over:=by
 unfold fQ at h ⊢;cases b:nth l n with
 | none=>rw[b] at h;cases h
 | some a =>
  rw[b] at h;simp only[Bool.and_eq_true] at h;obtain⟨c,d⟩:=UQ b;exact⟨a,d,c,by simp only[h.1,h.2,Bool.and_self,(T6 h.1).1,(T6 h.2).1],(T6 h.2).2⟩
def as2{n:Int}(h:0<=n):kindOf n=0↔n=0:=by unfold kindOf;split<;>omega
def afg{n:Int}(h:0<n):kindOf n - 1=n/\2<=kindOf n:=by unfold kindOf;rw[if_neg AY];omega
def atz{x:Node}(b:0<=en x.op)(a:gY x.op=none):x.op=1\/x.op=2\/x.op=3\/x.op=4\/x.op=5\/x.op=6\/x.op=7\/x.op=8:=by
 by_cases c:9<=x.op/\x.op<=19
 .unfold gY at a
  repeat' split at a
  all_goals first | omega | cases a
 .unfold en at b
  repeat' split at b
  all_goals omega
def ai4{l r:C_ Int}{n:Int}{g:Int->Int}(b:g 0=0)(h:0<=n->r[n.toNat]? = l[n.toNat]?.map g):g1 r n=(g (g1 l n).1,(g1 l n).2):=by
 unfold g1 nth;by_cases a:0<=n
 .rw[if_pos a,if_pos a,h a];cases l[n.toNat]? with
  | none=>simp[b]
  | some c=>rfl
 .rw[if_neg a,if_neg a];simp[b]
def atA{s:Scope}{f b:Int->Int->Int}{v w:Env}(N:eD s.scalars f b)(l:CO s f v w){x:Node}{i tv:Int}(O:0<=en x.op)(P:gY x.op=none)(a:(hh x s i).2=0) :
  fq x w (if x.op=3 then fp f i tv else tv)=(fp f (hh x s i).1 (fq x v tv).1,(fq x v tv).2):=by
 have r:=wA N;rcases atz O P with e | e | e | e | e | e | e | e
 .unfold hh at a ⊢;unfold fq;rw[if_pos e] at a ⊢;rw[if_pos e];by_cases hw:within x.n=true
  .rw[if_pos hw,if_pos hw,if_pos e];rfl
  .rw[if_neg hw] at a;cases a
 .have k:x.op≠1:=AY
  have y:¬x.op=3:=AY
  have z:¬x.op=4:=AY
  have c:∀v tv,fq x v tv=(match nth v.vars x.n with | some j=>g1 j 0 | none=>(0,8)):=λv tv=>by unfold fq;rw[if_neg k,if_pos e];rfl
  rw[c,c];unfold hh at a ⊢;rw[if_neg k,if_pos (show x.op=2\/x.op=3\/x.op=4 by omega)] at a ⊢;simp only[z,if_false] at a ⊢;by_cases d:(fQ s.vars x.n s).2.2=false
  .rw[if_pos d] at a;cases a
  rw[if_neg d] at a ⊢;obtain⟨g,p,m,q,A⟩:=T9 (by simpa using d);rw[q] at a ⊢;simp only[y,false_and,false_or,ne_eq,not_false_eq_true,true_and] at a ⊢;by_cases h:¬kindOf g.over=0
  .rw[if_pos h] at a;cases a
  rw[if_neg h];have B:g.over=0:=(as2 A).1 (Classical.not_not.1 h);obtain⟨j,C,G,H,I⟩:=l.plain _ _ p B;have J:nth v.vars x.n=some j:=by unfold nth;rw[if_pos m,G]
  have K:nth w.vars x.n=some C:=by unfold nth;rw[if_pos m,H]
  rw[J,K];simp only;exact ai4 (r _) λ_=>I
 .have k:x.op≠1:=AY
  have L:¬x.op=2:=AY
  have z:¬x.op=4:=AY
  have c:∀v tv,fq x v tv=(match nth v.vars x.n with | some j=>(match nth j (tv - 1) with | some M=>(M,0) | none=>(0,10)) | none=>(0,8)):=λv tv=>by unfold fq;rw[if_neg k,if_neg L,if_pos e];rfl
  rw[c,c,if_pos e];unfold hh at a ⊢;rw[if_neg k,if_pos (show x.op=2\/x.op=3\/x.op=4 by omega)] at a ⊢;simp only[z,if_false] at a ⊢;by_cases d:(fQ s.vars x.n s).2.2=false
  .rw[if_pos d] at a;cases a
  rw[if_neg d] at a ⊢;obtain⟨g,p,m,q,A⟩:=T9 (by simpa using d);rw[q] at a ⊢;simp only[e,ne_eq,not_true_eq_false,false_and,or_false,true_and] at a ⊢;by_cases h:kindOf g.over=0\/¬i=kindOf g.over
  .rw[if_pos h] at a;cases a
  rw[if_neg h];have B:g.over≠0:=λQ=>h (.inl (by rw[Q];rfl));have S:i=kindOf g.over:=Classical.byContradiction λt=>h (.inr t);obtain⟨j,C,G,H,I⟩:=l.over _ _ p B;have J:nth v.vars x.n=some j:=by unfold nth;rw[if_pos m,G]
  have K:nth w.vars x.n=some C:=by unfold nth;rw[if_pos m,H]
  have U:fp f i tv=f g.over tv:=by
   obtain⟨V,W⟩:=afg (n:=g.over) AY;unfold fp;rw[S,if_pos W,V]
  rw[J,K,U];simp only;rw[I];cases nth j (tv - 1) with
  | none=>simp[r]
  | some M=>rfl
 .have k:x.op≠1:=AY
  have L:¬x.op=2:=AY
  have y:¬x.op=3:=AY
  have c:∀v tv,fq x v tv=g1 v.locals x.n:=λv tv=>by unfold fq;rw[if_neg k,if_neg L,if_neg y,if_pos e]
  rw[c,c];unfold hh at a ⊢;rw[if_neg k,if_pos (show x.op=2\/x.op=3\/x.op=4 by omega)] at a ⊢;simp only[e,if_true] at a ⊢;by_cases d:(fQ s.locals x.n s).2.2=false
  .rw[if_pos d] at a;cases a
  rw[if_neg d] at a ⊢;obtain⟨g,p,m,q,A⟩:=T9 (by simpa using d);rw[q] at a ⊢;have X:¬((4:Int)=3):=AY
  simp only[X,false_and,false_or,ne_eq,not_false_eq_true,true_and] at a ⊢;by_cases h:¬kindOf g.over=0
  .rw[if_pos h] at a;cases a
  rw[if_neg h];exact ai4 (r _) λ_=>l.locals _ _ p
 .have n:hh x s i=kP x s:=by unfold hh;rw[if_neg AY,if_neg AY]
  rw[n] at a ⊢;have c:∀v tv,fq x v tv=(v.self,0):=λv tv=>by unfold fq;rw[if_neg AY,if_neg AY,if_neg AY,if_neg AY,if_neg AY,if_pos e]
  rw[c,c];unfold kP at a ⊢;rw[if_pos e] at a ⊢;by_cases u:1<=s.self/\s.self<=s.scalars.length
  .rw[if_pos u,l.self]
   have:kindOf s.self=1+s.self:=by unfold kindOf;rw[if_neg AY];omega
   rw[this]
  .rw[if_neg u] at a;cases a
 .have n:hh x s i=kP x s:=by unfold hh;rw[if_neg AY,if_neg AY]
  rw[n] at a ⊢;have c:∀v tv,fq x v tv=g1 v.lens x.n:=λv tv=>by unfold fq;rw[if_neg AY,if_neg AY,if_neg AY,if_neg AY,if_pos e]
  rw[c,c,l.lens];unfold kP at a ⊢;rw[if_neg (show ¬x.op=5 by omega),if_pos e] at a ⊢;unfold kO at a ⊢;cases t:nth s.aA x.n with
  | none=>rw[t] at a;cases a
  | some Z =>
   rw[t] at a;simp only at a ⊢;split
   .rw[Ac _ _ Ae]
   .rename_i u;rw[if_neg u] at a;cases a
 .have n:hh x s i=kP x s:=by unfold hh;rw[if_neg AY,if_neg AY]
  rw[n] at a ⊢;have c:∀v tv,fq x v tv=(if 0<=x.n then (match nth v.at_ (x.n.tdiv 16) with | some j=>g1 j (x.n.tmod 16) | none=>(0,8)) else (0,8)):=λv tv=>by unfold fq;rw[if_neg AY,if_neg AY,if_neg AY,if_neg AY,if_neg AY,if_neg AY,if_pos e];rfl
  rw[c,c,l.at_];unfold kP at a ⊢;rw[if_neg (show ¬x.op=5 by omega),if_neg (show ¬x.op=6 by omega),if_pos e] at a ⊢;have Y:(zW x.n s).1=0:=by
   unfold zW
   repeat' split
   all_goals rfl
  rw[Y,Ac _ _ Ae]
 .have n:hh x s i=kP x s:=by unfold hh;rw[if_neg AY,if_neg AY]
  have c:∀v tv,fq x v tv=(0,0):=λv tv=>by unfold fq;rw[if_neg AY,if_neg AY,if_neg AY,if_neg AY,if_neg AY,if_neg AY,if_neg AY]
  rw[c,c,r]
def amz{s:C_ Scalar}{f b:Int->Int->Int}(e:eD s f b){x:Int}{d:pF}(h:gY x=some d){k:Int}(g:d.iU = -1\/k=d.iU)(a c:Int):d.xd (fp f k a) (fp f k c)=d.xd a c/\d.makes<2:=by
 have i:(fp f k a=fp f k c)=(a=c):=propext ⟨Vv e,λj=>by rw[j]⟩;unfold gY at h
 repeat' split at h
 all_goals first
  | (cases h;done)
  | (cases h
     first
     | (simp only[wC,i];exact⟨trivial,Ae⟩)
     | (have l:k=0\/k=1:=by simp only[wC] at g;omega
        rw[Ac _ _ AY,Ac _ _ AY];exact⟨rfl,by simp[wC]⟩))
def PX(f:Int->Int->Int)(st vs b:C_ Int):Prop:=st.length=vs.length/\st.length=b.length/\∀(a:Nat) (c d:Int),st[a]? = some c->vs[a]? = some d->b[a]? = some (fp f c d)
theorem auE{s:Scope}{f b:Int->Int->Int}{v w:Env}(n:eD s.scalars f b)(H:CO s f v w){x:Node}{st vs j:C_ Int}(I:PX f st vs j)(J:0<=en x.op)(P:en x.op<=(st.length:Int))(d:(gG s x st).2=0) :
  gj w x j=(fp f (gG s x st).1 (gj v x vs).1,(gj v x vs).2):=by
 obtain⟨p,q,u⟩:=I;unfold gG at d ⊢;unfold gj;cases h:gY x.op with
 | none =>
  rw[h] at d;simp only at d ⊢;have e:=atA (tv:=vs.getLastD 0) n H J h d;rw[<-e];by_cases k:x.op=3
  .rw[if_pos k];have K:en x.op=1:=by rw[k];rfl
   have y:st.length - 1<st.length:=AY
   have z:vs.length - 1<vs.length:=AY
   have l:=u (st.length - 1) _ _ (List.getElem?_eq_getElem y) (by rw[p];exact List.getElem?_eq_getElem z);have r:j.getLastD 0=fp f (st.getLastD 0) (vs.getLastD 0):=by
    rw[List.getLastD_eq_getLast?,List.getLastD_eq_getLast?,List.getLastD_eq_getLast?,List.getLast?_eq_getElem?,List.getLast?_eq_getElem?,List.getLast?_eq_getElem?,<-q,l,List.getElem?_eq_getElem y,List.getElem?_eq_getElem z];rfl
   rw[r]
  .rw[if_neg k];unfold fq
   repeat rw[if_neg k]
 | some i =>
  rw[h] at d;simp only at d ⊢;have Q:=(Ca h).1;have K:1<=en x.op:=by
   have:=(Ca h).2
   have S:9<=x.op/\x.op<=19:=by simpa[BR] using this
   unfold en
   repeat' split
   all_goals omega
  have A:st.length - i.parts.toNat<st.length:=AY
  rw[<-p,<-q];generalize st.length - i.parts.toNat=c at *;have t:∀g:C_ Int,(g.drop c).headD 0=g.getD c 0:=λg=>by rw[List.headD_eq_head?_getD,List.head?_drop,List.getD]
  have B:∀g:C_ Int,c<g.length->(g.drop c).getLastD 0=g.getD (g.length - 1) 0:=λg e=>by
   rw[List.getLastD_eq_getLast?,List.getLast?_drop,if_neg AY,List.getLast?_eq_getElem?,List.getD]
  have C:∀a,c<=a->a<st.length->(i.iU = -1\/st.getD a 0=i.iU)/\st.getD a 0=st.getD c 0:=λa G e=>by
   unfold nv at d;split at d
   .rename_i m;rw[List.all_eq_true] at m;have L:st.getD a 0∈st.drop c:=by
     rw[List.mem_iff_getElem?];exact⟨a - c,by rw[List.getElem?_drop,show c+(a - c)=a from AY,List.getElem?_eq_getElem e,List.getD,List.getElem?_eq_getElem e];rfl⟩
    have:=m _ L
    rw[t] at this;simpa using this
   .cases d
  have M:(nv i (st.drop c)).1=i.makes:=by
   unfold nv at d ⊢;split at d
   .rename_i m;rw[if_pos m]
   .cases d
  have l:∀a,c<=a->a<st.length->j.getD a 0=fp f (st.getD c 0) (vs.getD a 0):=λa G e=>by
   have r:=u a _ _ (List.getElem?_eq_getElem e) (List.getElem?_eq_getElem AY);rw[List.getD,r,<-(C a G e).2,List.getD,List.getD,List.getElem?_eq_getElem e,List.getElem?_eq_getElem (show a<vs.length by omega)];rfl
  obtain⟨N,O⟩:=amz n h (C c (EM _) A).1 (vs.getD c 0) (vs.getD (st.length - 1) 0);unfold wJ;rw[t,t,B _ AY,B _ AY,<-p,<-q,l c (EM _) A,l _ AY AY,N,M];simp only;split
  .rw[Ac _ _ O]
  .rw[wA n]
theorem ahP{s:Scope}{f b:Int->Int->Int}{v w:Env}(x:eD s.scalars f b)(y:CO s f v w):∀(k:C_ Node) (a l m n:C_ Int),PX f a l m->e3 (gG s) k a=(0,n) ->
  (e3 (gj w) k m).1=(e3 (gj v) k l).1/\((e3 (gj v) k l).1=0->PX f n (e3 (gj v) k l).2 (e3 (gj w) k m).2)
 | [],a,l,m,n,hm,e=>by
  simp only[e3,Prod.mk.injEq,true_and] at e;subst e;exact⟨rfl,λ_=>hm⟩
 | c :: k,a,l,m,n,hm,e=>by
  simp only[e3] at e ⊢;by_cases p:(stepG (gG s) c a).1≠0
  .rw[if_pos p] at e;rw[e] at p;exact absurd rfl p
  rw[if_neg p] at e;have g:(stepG (gG s) c a).1=0:=by simpa using p
  obtain⟨J,K,_⟩:=ait g;obtain⟨r,t,z⟩:=hm;have A:(gG s c a).2=0:=by
   unfold stepG at g;rw[if_neg AY,if_neg AY] at g;by_cases d:(gG s c a).2≠0
   .rw[if_pos d] at g;exact absurd g d
   .simpa using d
  have L:=auE x y ⟨r,t,z⟩ J K A;have B:stepG (gG s) c a=(0,a.take (a.length - (en c.op).toNat)++[(gG s c a).1])/\(a.take (a.length - (en c.op).toNat)++[(gG s c a).1]).length<=12:=by
   unfold stepG at g ⊢;rw[if_neg AY,if_neg AY,if_neg (by simp[A])] at g ⊢;split at g
   .cases g
   .rename_i d;rw[if_neg d];exact⟨rfl,AY⟩
  have M:=B.2;rw[B.1] at e;simp only[ne_eq,not_true_eq_false,if_false] at e;simp only[List.length_append,List.length_take,List.length_cons,List.length_nil] at M;have C:∀(q:Env) (h:C_ Int),a.length=h.length->stepG (gj q) c h=if (gj q c h).2≠0 then ((gj q c h).2,h) else (0,h.take (h.length - (en c.op).toNat)++[(gj q c h).1]):=λq h Q=>by
   unfold stepG;rw[if_neg AY,if_neg AY];split
   .rfl
   .rw[if_neg];simp only[List.length_append,List.length_take,List.length_cons,List.length_nil];omega
  rw[C v l r,C w m t,L];simp only;by_cases d:(gj v c l).2≠0
  .rw[if_pos d,if_pos d];simp only[if_pos d];exact⟨trivial,λN=>absurd N d⟩
  .rw[if_neg d,if_neg d];simp only[ne_eq,not_true_eq_false,if_false];refine ahP x y k _ _ _ n ⟨by simp only[List.length_append,List.length_take,List.length_cons,List.length_nil];omega,by simp only[List.length_append,List.length_take,List.length_cons,List.length_nil];omega,λu O P i j=>?_⟩ e;rw[<-r] at j;rw[<-t];generalize a.length - (en c.op).toNat=G at *;rw[List.getElem?_append] at i j ⊢;simp only[List.length_take,<-r,<-t] at i j ⊢;by_cases H:u<min G a.length
   .rw[if_pos H] at i j ⊢;rw[List.getElem?_take_of_lt AY] at i j ⊢;exact z u O P i j
   .rw[if_neg H] at i j ⊢;generalize u - min G a.length=I at *;cases I with
    | zero =>
     simp at i j ⊢;subst i j;rfl
    | succ I=>simp at i
theorem Rm{s:Scope}{f b:Int->Int->Int}{v w:Env}(i:eD s.scalars f b)(d:CO s f v w){e:C_ Node}(h:(kind e s).2=0):eval e w=(fp f (kind e s).1 (eval e v).1,(eval e v).2):=by
 obtain⟨n,j,g,k⟩:=axA h;have p:kind e s=(g,0):=axz n j k;obtain⟨q,r⟩:=ahP i d e [] [] [] [g] ⟨rfl,rfl,λC g t h _=>by simp at h⟩ k;have u:=wA i;have x:¬e.length=0:=λy=>j (AF8 y);have d:∀a:Env,eval e a=if (e3 (gj a) e []).1≠0 then (0,(e3 (gj a) e []).1) else if (e3 (gj a) e []).2.length > 1 then (0,5) else ((e3 (gj a) e []).2.headD 0,0):=λa=>by
  unfold eval l7;rw[if_neg AY,if_neg x]
 rw[p,d,d,q];by_cases c:(e3 (gj v) e []).1≠0
 .rw[if_pos c,if_pos c,u]
 rw[if_neg c,if_neg c];obtain⟨l,m,z⟩:=r (by simpa using c);simp only[List.length_singleton] at l m;rw[if_neg AY,if_neg AY]
 match A:(e3 (gj v) e []).2,hw:(e3 (gj w) e []).2,l,m with
 | [B],[t],_,_ =>
  have:=z 0 g B rfl (by rw[A];rfl)
  rw[hw] at this;simp at this;simp[this]
structure CY(v:Var)(s:List Scalar):Prop where
 fa:v.scalar=0\/size v.scalar s≠0
 c4:v.over=0\/size v.over s≠0
 H3:v.scalar=0->narrow v.aQ v.ab=true
 aQ:(bounds v s).1<=v.init
 ab:v.init<=(bounds v s).2
structure Fa(c:eb)(s:List Scalar):Prop where
 fa:c.scalar=0\/size c.scalar s≠0
 cap:1<=c.cap/\c.cap<=4
 H3:c.scalar=0->narrow c.aQ c.ab=true
structure ajM(p:ed)(s:List Scalar):Prop where
 over:0<=p.over/\p.over<=s.length
 cb:1<=p.cb/\p.cb<=12
 gT:p.vars.length<=4/\p.cP.length<=12
 var:∀v∈p.vars,CY v s
structure gh(m:Model):Prop where
 gT:m.scalars.length<=2/\m.vars.length<=12/\m.aA.length<=4
 procs:m.procs.length<=6
 var:∀v∈m.vars,CY v m.scalars
 chan:∀c∈m.aA,Fa c m.scalars
 proc:∀p∈m.procs,ajM p m.scalars
 insts:(pieces m).1<=12
 cells:(pieces m).2.2<=64
def V9{k:Int}{s:C_ Scalar}(h:¬there k s=false):k=0\/size k s≠0:=by
 unfold there at h;by_cases a:k=0
 .exact .inl a
 .exact .inr (by simpa[a] using h)
def ai0{l:C_ Var}{s:C_ Scalar}{i:Nat}(d:i<l.length)(h:qX l s i=0):CY l[i] s:=by
 unfold qX at h;rw[List.getElem?_eq_getElem d] at h;simp only at h;by_cases b:there l[i].scalar s=false\/there l[i].over s=false
 .rw[if_pos b] at h;cases h
 rw[if_neg b] at h;by_cases c:(l[i].scalar=0/\narrow l[i].aQ l[i].ab=false)\/l[i].init<(bounds l[i] s).1\/l[i].init > (bounds l[i] s).2
 .rw[if_pos c] at h;cases h
 refine⟨V9 λa=>b (.inl a),V9 λa=>b (.inr a),λe=>?_,?_,?_⟩
 .cases f:narrow l[i].aQ l[i].ab with
  | true=>rfl
  | false=>exact absurd (.inl ⟨e,f⟩) c
 .exact Int.not_lt.1 λa=>c (.inr (.inl a))
 .exact Int.not_lt.1 λa=>c (.inr (.inr a))
theorem alL{l:C_ eb}{s:C_ Scalar}{i:Nat}(c:i<l.length)(h:qo l s i=0):Fa l[i] s:=by
 unfold qo at h;rw[List.getElem?_eq_getElem c] at h;simp only at h;by_cases a:there l[i].scalar s=false
 .rw[if_pos a] at h;cases h
 rw[if_neg a] at h;by_cases b:l[i].cap<1\/l[i].cap > 4\/(l[i].scalar=0/\narrow l[i].aQ l[i].ab=false)
 .rw[if_pos b] at h;cases h
 refine⟨V9 a,AY,λd=>?_⟩;cases e:narrow l[i].aQ l[i].ab with
 | true=>rfl
 | false=>exact absurd (.inr (.inr ⟨d,e⟩)) b
def Kw{fR:Int}{a:Nat->ByteArray}{mo:Nat->Int}{i:Nat}(h:err fR a mo i=0):mo i=0:=by
 unfold err at h;split at h
 .cases h
 .split at h
  .cases h
  .split at h
   .cases h
   .exact h
def gA{m:Model}(h:(check m).bK=0):gh m:=by
 unfold check at h;by_cases c:(data m).bK≠0
 .rw[if_pos c] at h;exact absurd h c
 rw[if_neg c] at h;have c:(data m).bK=0:=by simpa using c
 by_cases e:(nw m).bK≠0
 .rw[if_pos e] at h;exact absurd h e
 have e:(nw m).bK=0:=by simpa using e
 obtain⟨A,n,p⟩:=Q1 c;obtain⟨j,q,r⟩:=Ox e;refine⟨F2 c,?_,λs f=>?_,λB t=>?_,λC u=>?_,q,r⟩
 .apply Classical.byContradiction;intro g
  have:=Kt (i:=6) AY (j 6 AY)
  omega
 .obtain⟨d,a,rfl⟩:=List.mem_iff_getElem.1 f;exact ai0 a (Kw (Pl (n d a)))
 .obtain⟨d,a,rfl⟩:=List.mem_iff_getElem.1 t;exact alL a (Kw (JY (p d a)))
 .obtain⟨d,a,rfl⟩:=List.mem_iff_getElem.1 u;obtain⟨_,v,_,_⟩:=Dm a (j d a);have k:(hS m d).scalars=m.scalars:=by
   unfold hS;split<;>rfl
  obtain⟨w,x,b,i,_⟩:=U8 v;have y:(vars m.procs[d].vars m.scalars 4).2=0:=by
   apply Classical.byContradiction;intro g;unfold mB at i;rw[k,if_pos g] at i;exact g i
  unfold whole at b;rw[k] at b;split at b
  .cases b
  .split at b
   .cases b
   .split at b
    .cases b
    .exact⟨AY,AY,⟨w,x⟩,λs f=>by
      obtain⟨z,l,rfl⟩:=List.mem_iff_getElem.1 f;exact ai0 l (Kw (vF y z l))⟩
def akJ{a b c:Int}{s:C_ Scalar}(h:a=0->b<=c):(dJ a b c s).aQ<=(dJ a b c s).ab:=by
 unfold dJ;split
 .rename_i d;exact h d
 .exact(size_le a s).1
def UF{a b:Int}(h:narrow a b=true) : -1048576<=a/\a<=b/\b<=1048576/\b - a<256:=by
 unfold narrow at h;exact of_decide_eq_true h
def aiZ{v:Var}{s:C_ Scalar}(h:CY v s):(dJ v.scalar v.aQ v.ab s).aQ<=(dJ v.scalar v.aQ v.ab s).ab:=akJ λa=>(UF (h.H3 a)).2.1
def alK(c:eb)(s:C_ Scalar):(j6 s c).aQ<=0/\0<=(j6 s c).ab:=by
 unfold j6 dJ;split
 .simp only;omega
 .exact⟨Int.le_refl _,(size_le c.scalar s).1⟩
def alA{v:Var}{s:C_ Scalar}(h:CY v s):1<=cells v s:=by
 have:=size_le v.over s
 have:=h.c4
 unfold cells;split<;>omega
theorem vb(s:C_ Scalar)(v:Var):(qW s v).length=(cells v s).toNat:=by simp[qW]
theorem o3(s:C_ Scalar)(c:eb):(iH s c).length=1+c.cap.toNat:=by simp[iH];omega
def uL{m:Model}{x:c9}(h:x.of m):∃(a:Nat) (b:a<m.procs.length),x.proc=a/\kf m x=kR m.scalars m.procs[a]:=by
 refine⟨x.proc.toNat,by have:=h.ab;have:=h.aQ;omega,by have:=h.aQ;omega,?_⟩;unfold kf;rw[ik h.aQ (by exact_mod_cast h.ab)]
def ayX{m:Model}(h:gh m):∀a∈bT m,a≠[]:=λa b=>by
 obtain⟨c,d,rfl⟩:=List.mem_map.1 b
 have:=alA (h.var c d)
 intro e
 have:=congrArg List.length e
 rw[vb] at this;simp at this;omega
def ak6(m:Model):∀a∈cn m,a≠[]:=λa b=>by
 obtain⟨c,d,rfl⟩:=List.mem_map.1 b;simp[iH]
def asu(m:Model):∀a∈dH m,a≠[]:=λa b=>by
 obtain⟨c,d,rfl⟩:=List.mem_map.1 b;obtain⟨f,g,_,e⟩:=uL (qJ c d);rw[e];simp[kR]
def anW{m:Model}(h:gh m):jK 1 (bF m) 0=g0 0 (bT m)/\jK 2 (bF m) 0=g0 (total (bT m)) (cn m)/\jK 3 (bF m) 0=g0 (total (bT m)+total (cn m)) (dH m):=by
 unfold bF;simp only[Gf,j5,List.length_append,Nat.zero_add];refine⟨?_,?_,?_⟩
 .rw[KH 1 _ 0 0 (ayX h),A4 1 2 Ae,A4 1 3 Ae];simp
 .rw[KH 2 _ 0 _ (ak6 m),A4 2 1 Ae,A4 2 3 Ae];simp
 .rw[KH 3 _ 0 _ (asu m),A4 3 1 Ae,A4 3 2 Ae];simp
def V3(x:Int)(l:C_ Int):jz (x :: l)=x+jz l:=by
 have d:∀(l:C_ Int) (a:Int),l.foldl (· + ·) a=a+l.foldl (· + ·) 0:=by
  intro l
  induction l with
  | nil=>intro a;simp
  | cons b e c =>
   intro a;simp only[List.foldl_cons];rw[c (a+b),c (0+b)];omega
 unfold jz;rw[List.foldl_cons,d];omega
theorem Aj(l:C_ ea)(r:C_ (C_ ea)):total (l :: r)=l.length+total r:=by simp[total]
def IM(a b:C_ (C_ ea)):total (a++b)=total a+total b:=by simp[total]
theorem aiK(s:C_ Scalar):∀b:C_ Var,(total (b.map (qW s)):Int)=jz (b.map λa=>cells a s)
 | []=>rfl
 | a :: c=>by
  rw[AH8,Aj,AH8,V3,<-aiK s c,vb]
  have:=(r3 a s).1
  omega
theorem aiH(s:C_ Scalar):∀a:C_ eb,(∀b∈a,Fa b s)->(total (a.map (iH s)):Int)=jz (a.map r2)
 | [],_=>rfl
 | b :: d,c=>by
  rw[AH8,Aj,AH8,V3,<-aiH s d (λe f=>c e (by simp[f])),o3]
  have:=(c b Ah).cap
  unfold r2;omega
def py(s:C_ Scalar)(p:ed):(kR s p).length=1+p.vars.length:=by simp[kR];omega
def amX(m:Model)(i:Nat)(p:ed)(h:0<=p.over):(((jw i p).length+elems m p:Nat):Int)=l4 m p:=by
 unfold jw l4 elems;by_cases a:p.over=0
 .rw[if_pos a,if_pos a,hv (.inl AY)];rfl
 .rw[if_neg a,if_neg a];unfold size;by_cases c:p.over - 1<m.scalars.length
  .rw[ik AY c,List.getElem?_eq_getElem AY];simp only;by_cases b:(m.scalars[(p.over - 1).toNat]' AY).size<1\/4<(m.scalars[(p.over - 1).toNat]' AY).size
   .rw[if_pos b,if_neg AY];rfl
   .rw[if_neg b,if_pos AY];simp only[List.length_nil];omega
  .rw[hv (.inr AY),List.getElem?_eq_none AY];rfl
theorem aiI(m:Model):∀(e:C_ ed) (d:Nat),m.procs.drop d=e->(∀b∈e,0<=b.over)->(total ((ky m e d).map (kf m)):Int)=jz (e.map λb=>l4 m b*(1+b.vars.length))
 | [],_,_,_=>rfl
 | b :: h,d,g,f=>by
  have i:d<m.procs.length:=by
   apply Classical.byContradiction;intro t;rw[VQ AY] at g;cases g
  rw[AG0 i] at g;injection g with j k
  have l:∀c:c9,c.proc=d->(kf m c).length=1+b.vars.length:=λc a=>by
   unfold kf;rw[a,ik AY AY];simp only[Int.toNat_natCast];rw[j,py]
  have n:∀e:C_ c9,(∀c∈e,c.proc=d)->total (e.map (kf m))=e.length*(1+b.vars.length):=by
   intro e
   induction e with
   | nil=>intro _;simp[total]
   | cons c h p =>
    intro f;rw[AH8,Aj,p (λq r=>f q (by simp[r])),l c (f c Ah),AH5,AI2];omega
  have s:∀c∈jw d b++ki d (elems m b),c.proc=d:=λc a=>by
   rcases List.mem_append.1 a with a | a
   .unfold jw at a;split at a
    .rw[AH0] at a;rw[a]
    .cases a
   .unfold ki at a;obtain⟨u,_,rfl⟩:=List.mem_map.1 a;rfl
  rw[ky,AF9,IM,n _ s,AH8,V3,<-aiI m h (d+1) k (λc a=>f c (by simp[a])),<-amX m d b (f b Ah)];rw[JM,show(ki d (elems m b)).length=elems m b from by simp[ki]];simp only[Int.natCast_add,Int.natCast_mul];rfl
def MB{m:Model}(h:gh m):((bF m).length:Int)=(pieces m).2.2:=by
 rw[zX];have a:=aiK m.scalars m.vars;have b:=aiH m.scalars m.aA h.chan;have c:=aiI m m.procs 0 Ah (λd e=>(h.proc d e).over.1);unfold pieces;simp only;rw[<-a,<-b,<-c];simp only[bT,cn,dH,insts];omega
def Gc(l:yM)(s:Int):C_ Int:=if s=3 then l.insts else if s=2 then l.aA else l.vars
structure ajx(m:Model)(c:Nat)(x:Cell):Prop where
 sort:1<=x.sort/\x.sort<=3
 jg:0<=x.jg/\x.jg<(Gc (layout m) x.sort).length
 at_:(Gc (layout m) x.sort)[x.jg.toNat]? = some ((c:Int) - x.place)
 place:0<=x.place/\x.place<=c
 le:x.aQ<=x.ab
 chan:x.sort=2->x.aQ<=0/\0<=x.ab
def Uf{m:Model}{c:Nat}(h:c<total (bT m)):(bF m)[c]? = (cellsOf 1 (bT m) 0)[c]? := by
 unfold bF;rw[List.getElem?_append_left (by rw[JM,j5];omega),List.getElem?_append_left (by rw[j5];exact h)]
def MC{m:Model}{c:Nat}(a:total (bT m)<=c)(h:c<total (bT m)+total (cn m)):(bF m)[c]? = (cellsOf 2 (cn m) 0)[c - total (bT m)]? := by
 unfold bF;rw[List.getElem?_append_left (by rw[JM,j5,j5];omega),List.getElem?_append_right (by rw[j5];exact a),j5]
def MD{m:Model}{c:Nat}(a:total (bT m)+total (cn m)<=c):(bF m)[c]? = (cellsOf 3 (dH m) 0)[c - (total (bT m)+total (cn m))]? := by
 unfold bF;rw[List.getElem?_append_right (by rw[JM,j5,j5];exact a),JM,j5,j5]
def RH{α:Type}{l a:C_ α}{i j:Nat}{x:α}(h:l[i]? = a[j]?)(b:i<l.length)(c:j<a.length)(d:a[j]=x):l[i]=x:=by
 rw[List.getElem?_eq_getElem b,List.getElem?_eq_getElem c,d] at h;exact Option.some.inj h
def alq{m:Model}(h:gh m){c:Nat}(t:c<(bF m).length):ajx m c (bF m)[c]:=by
 have A:=t;rw[zX] at A;by_cases w:c<total (bT m)
 .have d:c<(cellsOf 1 (bT m) 0).length:=by rw[j5];exact w
  obtain⟨a,b,e,g,i,j,x⟩:=JW 1 (bT m) 0 0 c d;have k:(bF m)[c]=⟨1,(0+a:Nat),b,(bT m)[a][b].aQ,(bT m)[a][b].ab,(bT m)[a][b].kind⟩:=by
   exact RH (Uf w) t d i
  rw[k];have l:(g0 0 (bT m)).length=(bT m).length:=rK _ _;have f:Gc (layout m) 1=g0 0 (bT m):=rfl;refine⟨Ah,?_,?_,by simp;omega,?_,Ah⟩
  .rw[f,l];simp;exact e
  .rw[f];simp only[Nat.zero_add,Int.toNat_natCast];rw[j];congr 1;omega
  .have n:a<m.vars.length:=by simpa[bT] using e
   have p:=h.var _ (FA n)
   have:(bT m)[a]=qW m.scalars m.vars[a]:=by simp[bT]
   simp only[this];have q:(qW m.scalars m.vars[a])[b]'(by rw[<-this];exact g)=dJ m.vars[a].scalar m.vars[a].aQ m.vars[a].ab m.scalars:=by simp[qW]
   rw[q];exact aiZ p
 by_cases B:c<total (bT m)+total (cn m)
 .have d:c - total (bT m)<(cellsOf 2 (cn m) 0).length:=by rw[j5];omega
  obtain⟨a,b,e,g,i,j,x⟩:=JW 2 (cn m) 0 (total (bT m)) (c - total (bT m)) d;have k:(bF m)[c]=⟨2,(0+a:Nat),b,(cn m)[a][b].aQ,(cn m)[a][b].ab,(cn m)[a][b].kind⟩:=by
   exact RH (MC AY B) t d i
  rw[k];have l:(g0 (total (bT m)) (cn m)).length=(cn m).length:=rK _ _;have f:Gc (layout m) 2=g0 (total (bT m)) (cn m):=rfl;have q:(cn m)[a][b].aQ<=0/\0<=(cn m)[a][b].ab:=by
   have n:a<m.aA.length:=by simpa[cn] using e
   have p:=h.chan _ (FA n);have u:(cn m)[a]=iH m.scalars m.aA[a]:=by simp[cn]
   have r:(cn m)[a][b]∈iH m.scalars m.aA[a]:=by rw[<-u];exact FA g
   unfold iH at r;rcases List.mem_cons.1 r with s | s
   .rw[s];have:=p.cap;simp;omega
   .rw[(List.mem_replicate.1 s).2];exact alK _ _
  refine⟨Ah,?_,?_,by simp;omega,?_,λ_=>q⟩
  .rw[f,l];simp;exact e
  .rw[f];simp only[Nat.zero_add,Int.toNat_natCast];rw[j];congr 1;omega
  .exact Int.le_trans q.1 q.2
 .have d:c - (total (bT m)+total (cn m))<(cellsOf 3 (dH m) 0).length:=by rw[j5];omega
  obtain⟨a,b,e,g,i,j,x⟩:=JW 3 (dH m) 0 (total (bT m)+total (cn m)) (c - (total (bT m)+total (cn m))) d;have k:(bF m)[c]=⟨3,(0+a:Nat),b,(dH m)[a][b].aQ,(dH m)[a][b].ab,(dH m)[a][b].kind⟩:=by
   exact RH (MD AY) t d i
  rw[k];have l:(g0 (total (bT m)+total (cn m)) (dH m)).length=(dH m).length:=rK _ _;have f:Gc (layout m) 3=g0 (total (bT m)+total (cn m)) (dH m):=rfl;refine⟨Ah,?_,?_,by simp;omega,?_,Ah⟩
  .rw[f,l];simp;exact e
  .rw[f];simp only[Nat.zero_add,Int.toNat_natCast];rw[j];congr 1;omega
  .have n:a<(insts m).length:=by simpa[dH] using e
   obtain⟨y,C,_,s⟩:=uL (qJ _ (FA n));have u:(dH m)[a]=kR m.scalars m.procs[y]:=by simp[dH,s]
   have z:=h.proc _ (FA C);have r:(dH m)[a][b]∈kR m.scalars m.procs[y]:=by rw[<-u];exact FA g
   unfold kR at r;rcases List.mem_cons.1 r with v | v
   .rw[v];have:=z.cb;simp;omega
   .obtain⟨G,p,H⟩:=List.mem_map.1 v;rw[<-H];exact aiZ (z.var G p)
def Cu{a:C_ (C_ ea)}{i:Nat}(h:i<a.length):total (a.take (i+1))=total (a.take i)+a[i].length:=by
 rw[Oi h,ayF]
def ayG(a:C_ (C_ ea))(i:Nat):total (a.take i)<=total a:=by
 have b:total a=total (a.take i)+total (a.drop i):=by rw[<-IM,AH6]
 omega
def V6{a:C_ (C_ ea)}{i:Nat}(h:i<a.length):total (a.take i)+a[i].length<=total a:=by
 rw[<-Cu h];exact ayG _ _
def dS(m:Model)(i:Nat):Nat:=total ((bT m).take i)
def bS(m:Model)(i:Nat):Nat:=total (bT m)+total ((cn m).take i)
def b7(m:Model)(i:Nat):Nat:=total (bT m)+total (cn m)+total ((dH m).take i)
theorem O3(n:Nat):∀(c:C_ (C_ ea)) (a:Nat) (b:a<(g0 n c).length),(g0 n c)[a]=((n+total (c.take a):Nat):Int)
 | [],a,b=>by simp[g0] at b
 | d :: e,0,b=>by simp[g0,total]
 | d :: e,a+1,b=>by
  simp only[g0,List.getElem_cons_succ,List.take_succ_cons,Aj];rw[O3 (n+d.length) e a (by simpa[g0] using b)];congr 1;omega
def cH(m:Model):Nat:=(bF m).length
def ni(m:Model):cH m=total (bT m)+total (cn m)+total (dH m):=zX m
def An{m:Model}{i:Nat}(h:i<m.vars.length):∃a:i<(layout m).vars.length,(layout m).vars[i]=(dS m i:Int):=by
 have a:i<(g0 0 (bT m)).length:=by rw[rK];simpa[bT] using h
 exact⟨a,by have:=O3 0 (bT m) i a;rw[ZQ] at this;exact this⟩
def AS{m:Model}{i:Nat}(h:i<m.aA.length):∃a:i<(layout m).aA.length,(layout m).aA[i]=(bS m i:Int):=by
 have a:i<(g0 (total (bT m)) (cn m)).length:=by rw[rK];simpa[cn] using h
 exact⟨a,O3 _ _ i a⟩
def qH{m:Model}{i:Nat}(h:i<(insts m).length):∃a:i<(layout m).insts.length,(layout m).insts[i]=(b7 m i:Int):=by
 have a:i<(g0 (total (bT m)+total (cn m)) (dH m)).length:=by rw[rK];simpa[dH] using h
 exact⟨a,O3 _ _ i a⟩
def qV{m:Model}{i:Nat}(h:i<m.vars.length):dS m i+(cells m.vars[i] m.scalars).toNat<=total (bT m):=by
 have a:i<(bT m).length:=by simpa[bT] using h
 have:=V6 a
 have b:(bT m)[i].length=(cells m.vars[i] m.scalars).toNat:=by simp[bT,vb]
 rw[b] at this;exact this
def ub{m:Model}{i:Nat}(h:i<m.aA.length):bS m i+(1+m.aA[i].cap.toNat)<=total (bT m)+total (cn m):=by
 have a:i<(cn m).length:=by simpa[cn] using h
 have:=V6 a
 have b:(cn m)[i].length=1+m.aA[i].cap.toNat:=by simp[cn,o3]
 rw[b] at this;unfold bS;omega
def HD{m:Model}{i:Nat}(h:i<(insts m).length):b7 m i+(kf m (insts m)[i]).length<=cH m:=by
 have a:i<(dH m).length:=by simpa[dH] using h
 have:=V6 a
 have b:(dH m)[i].length=(kf m (insts m)[i]).length:=by simp[dH]
 rw[b] at this;rw[ni];unfold b7;omega
def po(m:Model)(x:c9):C_ Int:=match nth m.procs x.proc with | some a=>0 :: a.vars.map (·.init) | none=>[]
def Pe(m:Model)(v:Var):C_ Int:=List.replicate (cells v m.scalars).toNat v.init
def QM(c:eb):C_ Int:=List.replicate (1+c.cap.toNat) 0
def dn(m:Model):C_ Int:=m.vars.flatMap (Pe m)++m.aA.flatMap QM++(insts m).flatMap (po m)
def mM(s:C_ Scalar)(c:eb)(l:C_ Int):Prop :=
 ∃a,l[0]? = some a/\0<=a/\a<=c.cap/\∀b:Nat,(b:Int)<c.cap->∃d,l[b+1]? = some d/\((b:Int)<a->(dJ c.scalar c.aQ c.ab s).aQ<=d/\d<=(dJ c.scalar c.aQ c.ab s).ab)/\(a<=b->d=0)
def lO(m:Model)(i:Nat)(c:eb)(s:C_ Int):C_ Int:=(s.drop (bS m i)).take (1+c.cap.toNat)
structure Fits(m:Model)(s:List Int):Prop where
 len:s.length=cH m
 queue:∀i (h:i<m.aA.length),mM m.scalars m.aA[i] (lO m i m.aA[i] s)
 cell:∀i (h:i<s.length) (bo:i<(bF m).length),(bF m)[i].aQ<=s[i]/\s[i]<=(bF m)[i].ab
def hH(m:Model)(s:C_ Int):Prop:=(check m).bK=0/\Fits m s
def sX(m:Model)(s:C_ Int)(p:Int)(l:Int)(k:Nat):Nat:=((List.range k).filter λa=>decide (((insts m)[a]?.map (·.proc))=some p/\s[b7 m a]? = some l)).length
def jI(m:Model)(s:C_ Int)(p:Nat)(n:Int)(k:Nat):C_ Int:=(List.range n.toNat).map λ(a:Nat)=>((sX m s (p:Int) (a:Int) k:Nat):Int)
def EO(m:Model)(s:C_ Int)(inst:Int):C_ Int×Int :=
 match nth (insts m) inst with
 | some a=>((s.drop (b7 m inst.toNat+1)).take ((kf m a).length - 1),a.elem)
 | none=>([],0)
def bZ(m:Model)(s:C_ Int)(inst:Int):Env :=
 ⟨(List.range m.vars.length).map λa=>(s.drop (dS m a)).take (bT m)[a]!.length,
  (List.range m.aA.length).map λa=>s[bS m a]!,
  (EO m s inst).1,
  (List.range m.procs.length).map λa=>jI m s a (m.procs[a]?.map (·.cb) |>.getD 0) (insts m).length,
  (EO m s inst).2⟩
def c9.key(x:c9):Int:=5*x.proc+x.elem
def chain:c9->C_ c9->Prop
 | _,[]=>True
 | b,a :: c=>a≠b/\chain a c
theorem aax:∀(c:C_ c9) (b:c9),(b :: c).Pairwise (λa d=>a.key<d.key)->chain b c
 | [],_,_=>trivial
 | a :: e,b,f=>by
  obtain⟨g,h⟩:=List.pairwise_cons.1 f;refine⟨λi=>?_,aax e a h⟩
  have:=g a Ah
  rw[i] at this;exact absurd this (AK3 _)
theorem Ml{m:Model}:∀(q:C_ ed) (c:Nat),(ky m q c).Pairwise (λb f=>b.key<f.key)/\∀b∈ky m q c,5*(c:Int)<=b.key
 | [],_=>⟨List.Pairwise.nil,λb a=>by simp[ky] at a⟩
 | g :: s,c=>by
  obtain⟨t,r⟩:=Ml s (c+1);have k:∀b∈jw c g,b=⟨(c:Int),0⟩:=λb a=>by
   unfold jw at a;split at a
   .simpa using a
   .cases a
  have l:∀b∈ki c (elems m g),∃d:Nat,d<4/\b=⟨(c:Int),(d:Int)+1⟩:=λb a=>by
   unfold ki at a;obtain⟨d,n,rfl⟩:=List.mem_map.1 a
   have:=List.mem_range.1 n
   have:=F6 m g
   exact⟨d,AY,rfl⟩
  have u:(ki c (elems m g)).Pairwise (λb f=>b.key<f.key):=by
   unfold ki;rw[List.pairwise_map];exact List.Pairwise.imp (λ{h i} w=>by simp only[c9.key];omega) List.pairwise_lt_range
  have v:(jw c g).Pairwise (λb f=>b.key<f.key):=by
   unfold jw;split
   .exact List.pairwise_singleton _ _
   .exact List.Pairwise.nil
  simp only[ky];refine⟨List.pairwise_append.2 ⟨List.pairwise_append.2 ⟨v,u,λh e i p=>?_⟩,t,λh e i p=>?_⟩,λb a=>?_⟩
  .obtain rfl:=k h e;obtain⟨d,_,rfl⟩:=l i p;simp only[c9.key];omega
  .have j:=r i p;rcases List.mem_append.1 e with e | e
   .obtain rfl:=k h e;simp only[c9.key];simp at j;unfold c9.key at j;omega
   .obtain⟨d,n,rfl⟩:=l h e;unfold c9.key at j ⊢;simp at j ⊢;omega
  .rcases List.mem_append.1 a with a | a
   .rcases List.mem_append.1 a with a | a
    .obtain rfl:=k b a;simp[c9.key]
    .obtain⟨d,n,rfl⟩:=l b a;unfold c9.key;simp;omega
   .have:=r b a
    simp at this;omega
def asK(m:Model):chain ⟨-1,0⟩ (insts m):=by
 obtain⟨a,b⟩:=Ml (m:=m) m.procs 0;refine aax _ _ (List.pairwise_cons.2 ⟨λc d=>?_,a⟩)
 have:=b c d
 unfold c9.key at this ⊢;simp at this ⊢;omega
theorem abN(m:Model):∀(e:C_ c9) (a:Nat) (c:c9) (b:C_ Ref),chain c e->(e.foldl (nx m) ((a:Int) - 1,c,b)).2.2=b++mE m e a
 | [],_,_,_,_=>by simp[mE]
 | d :: g,a,c,b,f=>by
  simp only[List.foldl_cons];have h:nx m ((a:Int) - 1,c,b) d=(((a+1:Nat):Int) - 1,d,b++refsOf a (p2 m d)):=by
   unfold nx;simp only;rw[if_pos f.1];congr 1
   .omega
   .congr 2;congr 1;omega
  rw[h,abN m g (a+1) d _ f.2];simp[mE]
def aw6(m:Model):((insts m).foldl (nx m) (-1,⟨-1,0⟩,[])).2.2=refs m:=by
 have:=abN m (insts m) 0 ⟨-1,0⟩ [] (asK m)
 simpa[refs] using this
structure Ay(m:Model):Prop where
 procs:m.procs.length<=30
 cP:∀p∈m.procs,p.cP.length<=30
def UI{m:Model}(h:Ay m)(x:c9):p2 m x<=30:=by
 unfold p2;split
 .rename_i c a;refine h.cP c ?_;unfold nth at a;by_cases b:0<=x.proc
  .rw[if_pos b] at a;exact List.mem_of_getElem? a
  .rw[if_neg b] at a;cases a
 .omega
theorem abM{m:Model}(h:Ay m):∀(b:C_ c9) (a:Int×c9×C_ Ref),a.1<=(b.foldl (nx m) a).1/\(b.foldl (nx m) a).1<=a.1+b.length/\(b.foldl (nx m) a).2.2.length<=a.2.2.length+30*b.length
 | [],a=>Ah
 | c :: d,a=>by
  obtain⟨e,f,g⟩:=abM h d (nx m a c);simp only[List.foldl_cons,List.length_cons];have i:=UI h c;have j:a.1<=(nx m a c).1/\(nx m a c).1<=a.1+1:=by unfold nx;simp only;split<;>omega
  have k:(nx m a c).2.2.length<=a.2.2.length+30:=by unfold nx refsOf;simp only[List.length_append,List.length_map,List.length_range];omega
  omega
theorem ahj{m:Model}(h:Ay m):∀(b:C_ c9) (a:Nat),(mE m b a).length<=30*b.length
 | [],_=>by simp[mE]
 | c :: d,a=>by
  have:=ahj h d (a+1)
  have:=UI h c
  simp only[mE,List.length_append,refsOf,List.length_map,List.length_range,List.length_cons];omega
def Vu{m:Model}(h:Ay m):(refs m).length<=4500:=by
 have:=ahj h (insts m) 0
 have:=ts m
 have:=h.procs
 unfold refs;omega
structure YW(m:Model)(r:Ref)(i p k:Nat):Prop where
 ab:i<(insts m).length
 rH:r.inst=i
 ip:(insts m)[i].proc=p
 aB:p<m.procs.length
 sD:r.cmd=k
 J:k<m.procs[p].cP.length
theorem ahk{m:Model}:∀(c:C_ c9) (f:Nat) (d:Ref),d∈mE m c f->∃e,∃g:e<c.length,d.inst=((f+e:Nat):Int)/\∃b:Nat,b<p2 m c[e]/\d.cmd=b
 | [],_,_,a=>by simp[mE] at a
 | l :: c,f,d,a=>by
  simp only[mE,List.mem_append] at a;rcases a with a | a
  .unfold refsOf at a;obtain⟨b,h,rfl⟩:=List.mem_map.1 a;exact⟨0,Ah,Ah,b,by simpa using h,rfl⟩
  .obtain⟨e,g,i,b,j,k⟩:=ahk c (f+1) d a;exact⟨e+1,by simpa using g,by rw[i];congr 1;omega,b,by simpa using j,k⟩
def aw5{m:Model}{r:Ref}(h:r∈refs m):∃g a b,YW m r g a b:=by
 obtain⟨d,i,j,b,c,k⟩:=ahk _ _ _ h;have e:=qJ (insts m)[d] (FA _);obtain⟨a,f⟩:=Uh e.aQ;have l:a<m.procs.length:=by have:=e.ab;omega
 refine⟨d,a,b,i,by rw[j];simp,f,l,k,?_⟩;unfold p2 at c;rw[f,ik AY AY] at c;simpa using c
def U9{p:ed}{s:Scope}(h:(iB p s).2.2=0):whole p s=0/\(mB p s).2=0/\(mR (inner p s) p.cb p.cP p.cP 0).2.2=0:=by
 unfold iB at h;by_cases a:whole p s≠0
 .rw[if_pos a] at h;exact absurd h a
 rw[if_neg a] at h;by_cases b:(mB p s).2≠0
 .rw[if_pos b] at h;exact absurd h b
 rw[if_neg b] at h;exact⟨by simpa using a,by simpa using b,h⟩
theorem J0{g:Scope}{h:Int}{i:C_ ew}:∀(d:C_ ew) (c:Nat),(mR g h i d c).2.2=0->∀a (e:a<d.length),(jJ d[a] h g).2=0/\(i.take (c+a)).any (λj=>decide (j.name=d[a].name))=false
 | [],_,_,a,e=>by simp at e
 | l :: m,c,b,a,e=>by
  simp only[mR] at b;by_cases f:(jJ l h g).2≠0
  .rw[if_pos f] at b;exact absurd b f
  rw[if_neg f] at b;by_cases k:(i.take c).any (λj=>decide (j.name=l.name))=true
  .rw[if_pos k] at b;cases b
  rw[if_neg k] at b;cases a with
  | zero=>exact⟨by simpa using f,by simpa using k⟩
  | succ a =>
   have:=J0 m (c+1) b a (by simpa using e)
   simpa[Nat.add_assoc,Nat.add_comm 1 a] using this
def z6{α:Type}{l:C_ α}{n:Int}{x:α}(h:nth l n=some x):0<=n/\l[n.toNat]? = some x/\n.toNat<l.length:=by
 unfold nth at h;by_cases a:0<=n
 .rw[if_pos a] at h;exact⟨a,h,(List.getElem?_eq_some_iff.1 h).1⟩
 .rw[if_neg a] at h;cases h
def as8{n:Int}{s:Scope}(h:(h0 n s).2=true):0<=n/\n<=s.scalars.length/\(h0 n s).1=if n=0 then 0 else 1+n:=by
 unfold h0 at h ⊢;by_cases a:n=0
 .subst a;simp
 .rw[if_neg a] at h ⊢;by_cases b:n<0\/(s.scalars.length:Int)<n
  .rw[if_pos b] at h;cases h
  .rw[if_neg b,if_neg a];exact⟨AY,AY,rfl⟩
theorem atg{l:C_ Var}{n:Int}{s:Scope}(h:(fQ l n s).2.2=true):∃a,nth l n=some a/\l[n.toNat]? = some a/\0<=n/\fQ l n s=((h0 a.scalar s).1,(h0 a.over s).1,true)/\(h0 a.scalar s).2=true/\(h0 a.over s).2=true:=by
 unfold fQ at h ⊢;cases b:nth l n with
 | none=>rw[b] at h;cases h
 | some a =>
  rw[b] at h;simp only[Bool.and_eq_true] at h;obtain⟨c,d,_⟩:=z6 b;exact⟨a,rfl,d,c,by simp only[h.1,h.2,Bool.and_self],h.1,h.2⟩
def nZ(a n:Nat):C_ Int:=(List.range n).map λ(b:Nat)=>((a+b:Nat):Int)
def VB(a:Nat):nZ a 1=[(a:Int)]:=by simp[nZ]
def ahB{a n:Nat}{x:Int}:x∈nZ a n↔(a:Int)<=x/\x<((a+n:Nat):Int):=by
 constructor
 .intro b;obtain⟨d,c,rfl⟩:=List.mem_map.1 b
  have:=List.mem_range.1 c
  omega
 .intro b;refine List.mem_map.2 ⟨(x - a).toNat,List.mem_range.2 AY,AY⟩
structure azU(l:List Int)(last:Int)(out:List Int):Prop where
 awa:out.Pairwise (· < ·)
 mem:∀x,x∈out↔x∈l/\x<=last
 last : -1<=last
structure P9(l r:List Int):Prop where
 awa:r.Pairwise (· < ·)
 mem:∀x,x∈r↔x∈l
def zY(m:Model)(v:Nat):Nat:=match m.vars[v]? with | some a=>(cells a m.scalars).toNat | none=>0
def Rg(m:Model)(q:Nat):Nat:=match (insts m)[q]? with | some a=>a.elem.toNat | none=>0
def gq(m:Model)(c:Nat):Nat:=match m.aA[c]? with | some a=>a.cap.toNat | none=>0
def T2(m:Model)(q v:Nat)(a:Bool):C_ Int:=if a then nZ (dS m v+Rg m q - 1) 1 else nZ (dS m v) (zY m v)
def akC(m:Model)(p:Int)(n:Nat):C_ Int:=(List.range n).flatMap λa=>if (insts m)[a]?.map (·.proc)=some p then nZ (b7 m a) 1 else []
def auC(m:Model)(q:Nat)(a:Bool)(x:Node):C_ Int :=
 if x.op=2 then nZ (dS m x.n.toNat) 1
 else if x.op=3 then T2 m q x.n.toNat a
 else if x.op=4 then nZ (b7 m q+1+x.n.toNat) 1
 else if x.op=6 then nZ (bS m x.n.toNat) 1
 else if x.op=7 then akC m (x.n.tdiv 16) (insts m).length
 else []
def avn(e:C_ Node):Nat->Bool
 | 0=>false
 | a+1=>match e[a]? with | some b=>decide (b.op=5) | none=>false
def Rp(m:Model)(q:Nat)(e:C_ Node)(n:Nat):C_ Int:=(List.range n).flatMap λa=>match e[a]? with | some b=>auC m q (avn e a) b | none=>[]
def Dg(m:Model)(c:Nat):C_ Int:=nZ (bS m c) (1+gq m c)
def OR(a:Act):Bool:=match a.index with | [b]=>decide (b.op=5) | _=>false
def aj5(m:Model)(q:Nat)(a:Act):C_ Int :=
 if a.kind=5 then Dg m a.to.toNat
 else (if a.kind=2 then Rp m q a.index a.index.length else if a.kind=4 then nZ (bS m a.to.toNat) 1 else [])++Rp m q a.value a.value.length
def Jz(m:Model)(q:Nat)(a:Act):C_ Int :=
 if a.kind=1 then nZ (dS m a.to.toNat) 1
 else if a.kind=2 then T2 m q a.to.toNat (OR a)
 else if a.kind=3 then nZ (b7 m q+1+a.to.toNat) 1
 else if a.kind=4 then Dg m a.to.toNat
 else if a.kind=5 then Dg m a.to.toNat++nZ (b7 m q+1+a.loc.toNat) 1
 else []
def ab4(m:Model)(q:Nat)(c:ew):C_ Int:=nZ (b7 m q) 1++Rp m q c.guard c.guard.length
def awK(m:Model)(q:Nat)(c:ew)(n:Nat):C_ Int:=ab4 m q c++(c.b6.take n).flatMap (aj5 m q)
def Wr(m:Model)(q:Nat)(c:ew)(n:Nat):C_ Int:=nZ (b7 m q) 1++(c.b6.take n).flatMap (Jz m q)
structure P3(s:Scope)(x:Node):Prop where
 var:x.op=2->0<=x.n/\∃v,s.vars[x.n.toNat]? = some v/\v.over=0
 item:x.op=3->0<=x.n/\x.n.toNat<s.vars.length
 loc:x.op=4->0<=x.n/\x.n.toNat<s.locals.length
 self:x.op=5->1<=s.self/\s.self<=s.scalars.length
 len:x.op=6->0<=x.n/\x.n.toNat<s.aA.length
 at_:x.op=7->0<=x.n/\(x.n.tdiv 16).toNat<s.procs.length
structure Fe(s:Scope)(e:List Node):Prop where
 node:∀k (h:k<e.length),P3 s e[k]/\(e[k].op=3->0<k)
 len:e.length<=24
def aty{s:Scope}{x:Node}{j:Int}(h:(hh x s j).2=0):P3 s x:=by
 unfold hh at h;by_cases m:x.op=1
 .exact⟨AY,AY,AY,AY,AY,AY⟩
 rw[if_neg m] at h;by_cases k:x.op=2\/x.op=3\/x.op=4
 .rw[if_pos k] at h;simp only at h;by_cases f:(fQ (if x.op=4 then s.locals else s.vars) x.n s).2.2=false
  .rw[if_pos f] at h;cases h
  rw[if_neg f] at h;obtain⟨d,t,g,i,n,u,p⟩:=atg (by simpa using f);obtain⟨v,w,q⟩:=as8 p;rw[n] at h;simp only at h;have e:=(List.getElem?_eq_some_iff.1 g).1;by_cases l:(x.op=3/\((h0 d.over s).1=0\/j≠(h0 d.over s).1))\/(x.op≠3/\(h0 d.over s).1≠0)
  .rw[if_pos l] at h;cases h
  .refine⟨λa=>⟨i,d,?_,?_⟩,λa=>⟨i,?_⟩,λa=>⟨i,?_⟩,AY,AY,AY⟩
   .rw[if_neg AY] at g;exact g
   .have:(h0 d.over s).1=0:=Classical.byContradiction λb=>l (.inr ⟨AY,b⟩)
    rw[q] at this;split at this
    .assumption
    .omega
   .rw[if_neg AY] at e;exact e
   .rw[if_pos a] at e;exact e
 .rw[if_neg k] at h;unfold kP at h;refine⟨AY,AY,AY,λa=>?_,λa=>?_,λa=>?_⟩
  .rw[if_pos a] at h;by_cases c:1<=s.self/\s.self<=s.scalars.length
   .exact c
   .rw[if_neg c] at h;cases h
  .rw[if_neg AY,if_pos a] at h;unfold kO at h;cases b:nth s.aA x.n with
   | none=>rw[b] at h;cases h
   | some r=>exact⟨(z6 b).1,(z6 b).2.2⟩
  .rw[if_neg AY,if_neg AY,if_pos a] at h;unfold zW at h;by_cases c:0<=x.n
   .rw[if_pos c] at h;cases b:nth s.procs (x.n.tdiv 16) with
    | none=>rw[b] at h;cases h
    | some r=>exact⟨c,(z6 b).2.2⟩
   .rw[if_neg c] at h;cases h
def as1{e:C_ Node}{s:Scope}(h:(kind e s).2=0):Fe s e:=by
 unfold kind l7 at h;by_cases j:e.length > 24
 .rw[if_pos j] at h;cases h
 rw[if_neg j] at h;by_cases p:e.length=0
 .exact⟨λa k=>AY,AY⟩
 rw[if_neg p] at h;by_cases d:(e3 (gG s) e []).1≠0
 .rw[if_pos d] at h;exact absurd h d
 have d:(e3 (gG s) e []).1=0:=by simpa using d
 refine⟨λa k=>?_,AY⟩;have l:∀g,(e3 (gG s) (e.take g) []).1=0:=λg=>Classical.byContradiction λi=>by
  have:=ahG (f:=gG s) (e:=e) (k:=g) rfl i
  rw[this] at d;exact i d
 have q:e3 (gG s) (e.take a) []=(0,(e3 (gG s) (e.take a) []).2):=Prod.ext (l a) rfl;have r:=EG k q;have b:=l (a+1);rw[r] at b;unfold stepG at b;by_cases m:en e[a].op<0
 .rw[if_pos m] at b;cases b
 rw[if_neg m] at b;by_cases f:((e3 (gG s) (e.take a) []).2.length:Int)<en e[a].op
 .rw[if_pos f] at b;cases b
 rw[if_neg f] at b;by_cases c:(gG s e[a] (e3 (gG s) (e.take a) []).2).2≠0
 .rw[if_pos c] at b;exact absurd b c
 have c:(gG s e[a] (e3 (gG s) (e.take a) []).2).2=0:=by simpa using c
 constructor
 .by_cases n:BR e[a].op=false
  .unfold gG at c;rw[agi n] at c;exact aty c
  .have:9<=e[a].op:=by
    simp only[BR,decide_eq_false_iff_not] at n;omega
   exact⟨AY,AY,AY,AY,AY,AY⟩
 .intro t;apply Classical.byContradiction;intro i;have u:a=0:=AY
  subst u;rw[t] at f;simp[e3,en] at f
def JD{e:C_ Node}{k:Int}{s:Scope}(h:asked e k s=0):Fe s e:=by
 unfold asked at h;by_cases a:(kind e s).2≠0
 .rw[if_pos a] at h;exact absurd h a
 .exact as1 (by simpa using a)
structure qZ(s:Scope)(a:Act):Prop where
 set:a.kind=1->0<=a.to/\∃v,s.vars[a.to.toNat]? = some v/\v.over=0
 item:a.kind=2->0<=a.to/\a.to.toNat<s.vars.length/\Fe s a.index
 loc:a.kind=3->0<=a.to/\a.to.toNat<s.locals.length
 chan:a.kind=4\/a.kind=5->0<=a.to/\a.to.toNat<s.aA.length
 recv:a.kind=5->0<=a.loc/\a.loc.toNat<s.locals.length
 val:a.kind≠5->Fe s a.value
 kind:1<=a.kind/\a.kind<=5
theorem Q2{l:C_ Var}{n:Int}{s:Scope}{q:Var×Int}(h:declared l n s=some q):0<=n/\l[n.toNat]? = some q.1/\n.toNat<l.length:=by
 unfold declared at h;cases a:nth l n with
 | none=>rw[a] at h;cases h
 | some b =>
  rw[a] at h;simp only at h;split at h
  .injection h with h
   subst h;exact z6 a
  .cases h
def aj9{a:Act}{s:Scope}(h:lo a s=0):qZ s a:=by
 unfold lo at h;by_cases n:a.kind=1\/a.kind=2\/a.kind=3
 .rw[if_pos n] at h;cases e:declared (if a.kind=3 then s.locals else s.vars) a.to s with
  | none=>rw[e] at h;cases h
  | some j =>
   rw[e] at h;obtain⟨k,p⟩:=j;obtain⟨g,m,f⟩:=Q2 e;simp only at h;by_cases b:(k.over≠0)≠(a.kind=2)
   .rw[if_pos b] at h;cases h
   rw[if_neg b] at h;have b:(k.over≠0)=(a.kind=2):=Classical.byContradiction λj=>b j;by_cases l:a.kind=2/\asked a.index (1+k.over) s≠0
   .rw[if_pos l] at h;exact absurd h l.2
   rw[if_neg l] at h;refine⟨λc=>⟨g,k,?_,?_⟩,λc=>⟨g,?_,?_⟩,λc=>⟨g,?_⟩,AY,AY,λ_=>JD h,AY⟩
   .rw[if_neg AY] at m;exact m
   .apply Classical.byContradiction;intro d
    have:a.kind=2:=b ▸ d
    omega
   .rw[if_neg AY] at f;exact f
   .exact JD (Classical.byContradiction λd=>l ⟨c,d⟩)
   .rw[if_pos c] at f;exact f
 .rw[if_neg n] at h;by_cases b:a.kind=4\/a.kind=5
  .rw[if_pos b] at h;cases i:channel a.to s with
   | none=>rw[i] at h;cases h
   | some p =>
    rw[i] at h;simp only at h;have q:0<=a.to/\a.to.toNat<s.aA.length:=by
     unfold channel at i;cases d:nth s.aA a.to with
     | none=>rw[d] at i;cases i
     | some r=>exact⟨(z6 d).1,(z6 d).2.2⟩
    refine⟨AY,AY,AY,λ_=>q,λc=>?_,λc=>?_,AY⟩
    .rw[if_pos c] at h;unfold Ez at h;cases e:declared s.locals a.loc s with
     | none=>rw[e] at h;cases h
     | some j =>
      obtain⟨g,m,f⟩:=Q2 e;exact⟨g,f⟩
    .rw[if_neg c] at h;exact JD h
  .rw[if_neg b] at h;cases h
structure Fb(s:Scope)(c:ew):Prop where
 guard:Fe s c.guard
 act:∀k (h:k<c.b6.length),qZ s c.b6[k]
 gT:c.b6.length<=6
theorem ZC{s:Scope}:∀(d:C_ Act) (f:Nat) (e:Bool),(mi s d f e).2=0->∀b (a:b<d.length),qZ s d[b]
 | [],_,_,_,b,a=>by simp at a
 | g :: i,f,e,a,b,j=>by
  unfold mi at a;by_cases h:(hU g&&e)=true
  .rw[if_pos h] at a;cases a
  rw[if_neg h] at a;by_cases c:lo g s≠0
  .rw[if_pos c] at a;exact absurd a c
  rw[if_neg c] at a;cases b with
  | zero=>exact aj9 (by simpa using c)
  | succ b=>exact ZC i _ _ a b (by simpa using j)
def al6{c:ew}{a:Int}{s:Scope}(h:(jJ c a s).2=0):Fb s c:=by
 unfold jJ at h;by_cases b:head c a≠0
 .rw[if_pos b] at h;exact absurd h b
 rw[if_neg b] at h;by_cases d:c.guard.length > 0/\asked c.guard 1 s≠0
 .rw[if_pos d] at h;exact absurd h d.2
 rw[if_neg d] at h;refine⟨?_,ZC _ _ _ h,?_⟩
 .by_cases i:c.guard.length > 0
  .exact JD (Classical.byContradiction λe=>d ⟨i,e⟩)
  .exact⟨λj k=>AY,AY⟩
 .apply Classical.byContradiction;intro e;apply b;unfold head;by_cases f:isName c.name=false
  .rw[if_pos f];decide
  rw[if_neg f];by_cases g:c.from_<0\/a<=c.from_\/c.to<0\/a<=c.to
  .rw[if_pos g];decide
  rw[if_neg g,if_pos AY];decide
def QR{m:Model}(h:(check m).bK=0):(nw m).bK=0:=by
 unfold check at h;by_cases a:(data m).bK≠0
 .rw[if_pos a] at h;exact absurd h a
 rw[if_neg a] at h;apply Classical.byContradiction;intro b;rw[if_pos b] at h;exact b h
def amb{m:Model}(h:(check m).bK=0){p k:Nat}(a:p<m.procs.length)(c:k<m.procs[p].cP.length):Fb (inner m.procs[p] (fm m)) m.procs[p].cP[k]:=by
 obtain⟨d,_,_⟩:=Ox (QR h);obtain⟨_,e,_,_⟩:=Dm a (d p a);obtain⟨_,_,f⟩:=U9 e;have g:hS m (p:Int)=inner m.procs[p] (fm m):=by
  unfold hS;rw[ik AY AY];rfl
 have b:=(J0 _ _ f k c).1;rw[g] at b;exact al6 b
def val:C_ Nat->Nat
 | []=>0
 | a :: b=>a+256*val b
def Ka(n:Nat):C_ Nat:=if a:n=0 then [] else n % 256 :: Ka (n / 256)
termination_by n
decreasing_by omega
def af8:C_ Cell->C_ Int->Nat->Nat
 | a :: c,d :: e,b=>af8 c e (b*(a.ab - a.aQ+1).toNat+(d - a.aQ).toNat)
 | _,_,b=>b
def num(m:Model)(s:C_ Int):Nat:=af8 (bF m) s 0
def fR(m:Model):Nat:=num m ((bF m).map (·.ab))
def ak2(m:Model):Nat:=(Ka (fR m)).length
def fixed(k n:Nat):C_ Nat:=Ka n++List.replicate (k - (Ka n).length) 0
def bytes(m:Model)(s:C_ Int):C_ Nat:=(fixed (ak2 m) (num m s)).reverse
def wI(m:Model):C_ (C_ Int):=m.vars.map (Pe m)
def FX(m:Model):C_ (C_ Int):=m.aA.map QM
def we(m:Model):C_ (C_ Int):=(insts m).map (po m)
theorem RD:∀(e:C_ (C_ Int)) (c:C_ (C_ ea)),e.map List.length=c.map List.length->∀(a b:Nat) (g:a<e.length) (d:b<e[a].length),e.flatten[total (c.take a)+b]? = some e[a][b]
 | [],_,_,a,_,g,_=>by simp at g
 | h :: i,[],f,_,_,_,_=>by simp at f
 | h :: i,j :: c,f,0,b,_,d=>by
  simp only[List.take_zero,List.flatten_cons,total,List.map_nil,List.sum_nil,Nat.zero_add,List.getElem_cons_zero] at d ⊢;rw[List.getElem?_append_left d,List.getElem?_eq_getElem d]
 | h :: i,j :: c,f,a+1,b,g,d=>by
  simp only[List.map_cons,List.cons.injEq] at f;simp only[List.take_succ_cons,List.flatten_cons,Aj,List.getElem_cons_succ] at d ⊢;rw[List.getElem?_append_right AY,show j.length+total (c.take a)+b - h.length=total (c.take a)+b from AY];exact RD i c f.2 a b (by simpa using g) d
def mV{a:C_ (C_ Int)}{B:C_ (C_ ea)}(h:a.map List.length=B.map List.length):a.flatten.length=total B:=by
 rw[List.length_flatten,h];rfl
def Ao(m:Model):(wI m).map List.length=(bT m).map List.length:=by
 simp[wI,bT,List.map_map,Function.comp_def,Pe,vb]
def FY(m:Model):(FX m).map List.length=(cn m).map List.length:=by
 simp[FX,cn,List.map_map,Function.comp_def,QM,o3]
theorem asC(m:Model)(x:c9):(po m x).length=(kf m x).length:=by
 unfold po kf;cases nth m.procs x.proc<;>simp[kR]
def aeM(m:Model):(we m).map List.length=(dH m).map List.length:=by
 simp[we,dH,List.map_map,Function.comp_def,asC]
def KF(m:Model):dn m=(wI m).flatten++(FX m).flatten++(we m).flatten:=by
 simp[dn,wI,FX,we,List.flatMap_def]
def Rv(m:Model):(dn m).length=cH m:=by
 rw[KF,JM,JM,mV (Ao m),mV (FY m),mV (aeM m),ni]
def Rx{m:Model}{i j:Nat}(a:i<m.vars.length)(f:(j:Int)<cells m.vars[i] m.scalars):(dn m)[dS m i+j]? = some m.vars[i].init:=by
 have c:i<(wI m).length:=by simpa[wI] using a
 have b:(wI m)[i]=List.replicate (cells m.vars[i] m.scalars).toNat m.vars[i].init:=by simp[wI,Pe]
 have d:j<(wI m)[i].length:=by rw[b,AG1];omega
 have e:=RD (wI m) (bT m) (Ao m) i j c d;have g:=qV a;rw[KF,Vh,List.getElem?_append_left (by rw[mV (Ao m)];omega)];unfold dS;rw[e];simp[b]
def KG{m:Model}{c:Nat}(d:total (bT m)<=c)(g:c<total (bT m)+total (cn m)):(dn m)[c]? = some 0:=by
 rw[KF,List.getElem?_append_left (by rw[JM,mV (Ao m),mV (FY m)];omega),List.getElem?_append_right (by rw[mV (Ao m)];exact d),mV (Ao m)];have a:c - total (bT m)<(FX m).flatten.length:=by rw[mV (FY m)];omega
 rw[List.getElem?_eq_getElem a];have b:=FA a;rw[List.mem_flatten] at b;obtain⟨h,e,f⟩:=b;obtain⟨i,_,rfl⟩:=List.mem_map.1 e;rw[(List.mem_replicate.1 f).2]
def Ge{m:Model}{i j:Nat}(b:i<(insts m).length)(c:j<(po m (insts m)[i]).length):(dn m)[b7 m i+j]? = some (po m (insts m)[i])[j]:=by
 have d:i<(we m).length:=by simpa[we] using b
 have a:(we m)[i]=po m (insts m)[i]:=by simp[we]
 have e:j<(we m)[i].length:=by rw[a];exact c
 have f:=RD (we m) (dH m) (aeM m) i j d e;rw[KF,List.getElem?_append_right (by rw[JM,mV (Ao m),mV (FY m)];unfold b7;omega),JM,mV (Ao m),mV (FY m)];unfold b7;rw[show total (bT m)+total (cn m)+total ((dH m).take i)+j - (total (bT m)+total (cn m))=total ((dH m).take i)+j from AY,f];simp[a]
def pre(a:C_ Int)(d:Nat):C_ Int:=a.take d++List.replicate (a.length - d) 0
def Ow{a:C_ Int}{d:Nat}(h:d<=a.length):(pre a d).length=a.length:=by simp[pre];omega
def avZ(a:C_ Int):pre a 0=List.replicate a.length 0:=by simp[pre]
def avY(a:C_ Int):pre a a.length=a:=by simp[pre]
def U7{a:C_ Int}{d:Nat}{x:Int}(h:a[d]? = some x):(pre a d).set d x=pre a (d+1):=by
 obtain⟨c,rfl⟩:=List.getElem?_eq_some_iff.1 h;apply List.ext_getElem?;intro b;unfold pre;by_cases e:b<d
 .rw[List.getElem?_set_ne AY,List.getElem?_append_left (by simp;omega),List.getElem?_append_left (by simp;omega),List.getElem?_take_of_lt e,List.getElem?_take_of_lt AY]
 .by_cases f:b=d
  .subst f;rw[List.getElem?_set_self (by simp;omega),List.getElem?_append_left (by simp;omega),List.getElem?_take_of_lt AY,List.getElem?_eq_getElem c]
  .rw[List.getElem?_set_ne AY,List.getElem?_append_right (by simp;omega),List.getElem?_append_right (by simp;omega),List.getElem?_replicate,List.getElem?_replicate];simp only[List.length_take];have g:min d a.length=d:=AY
   have i:min (d+1) a.length=d+1:=AY
   rw[g,i];by_cases h:b<a.length
   .rw[if_pos AY,if_pos AY]
   .rw[if_neg AY,if_neg AY]
def agL{a:C_ Int}{d:Nat}(h:a[d]? = some 0):pre a d=pre a (d+1):=by
 rw[<-U7 h];obtain⟨b,_⟩:=List.getElem?_eq_some_iff.1 h;apply List.ext_getElem?;intro c;by_cases e:c=d
 .subst e;rw[List.getElem?_set_self (by rw[Ow AY];exact b)];unfold pre;rw[List.getElem?_append_right (by simp only[List.length_take];omega),List.getElem?_replicate,if_pos (by simp only[List.length_take];omega)]
 .rw[List.getElem?_set_ne AY]
theorem agK{c:C_ Int}{d:Nat}:∀a,(∀b,d<=b->b<d+a->c[b]? = some 0)->pre c d=pre c (d+a)
 | 0,_=>rfl
 | a+1,e=>by
  rw[agK a λb f g=>e b f AY,agL (e (d+a) AY AY)];rfl
theorem wH{a:C_ Int}{d:Nat}{x:Int}(h:a[d]? = some x):a.take (d+1)=a.take d++[x]:=by
 obtain⟨b,rfl⟩:=List.getElem?_eq_some_iff.1 h;exact Oi b
def aiY{m:Model}{i:Nat}(h:i<m.vars.length):dS m (i+1)=dS m i+(cells m.vars[i] m.scalars).toNat:=by
 have a:i<(bT m).length:=by simpa[bT] using h
 unfold dS;rw[Cu a];simp[bT,vb]
def aaf{m:Model}{i:Nat}(h:i<m.aA.length):bS m (i+1)=bS m i+(1+m.aA[i].cap.toNat):=by
 have a:i<(cn m).length:=by simpa[cn] using h
 unfold bS;rw[Cu a];simp[cn,o3];omega
def aeK{m:Model}{i:Nat}(h:i<(insts m).length):b7 m (i+1)=b7 m i+(kf m (insts m)[i]).length:=by
 have a:i<(dH m).length:=by simpa[dH] using h
 unfold b7;rw[Cu a];simp[dH];omega
def aiX{m:Model}{i:Nat}(h:m.vars.length<=i):dS m i=total (bT m):=by
 unfold dS;rw[IA (by simpa[bT] using h)]
def aag(m:Model):bS m 0=total (bT m):=by simp[bS,total]
def ak4{m:Model}{i:Nat}(h:m.aA.length<=i):bS m i=total (bT m)+total (cn m):=by
 unfold bS;rw[IA (by simpa[cn] using h)]
def aeL(m:Model):b7 m 0=total (bT m)+total (cn m):=by simp[b7,total]
def aeJ{m:Model}{i:Nat}(h:(insts m).length<=i):b7 m i=cH m:=by
 unfold b7;rw[IA (by simpa[dH] using h),ni]
theorem afo(s w:Int):∀(b:C_ ea) (c a:Nat) (d:a<b.length),(fz s w b c)[a]? = some ⟨s,w,(c+a:Nat),b[a].aQ,b[a].ab,b[a].kind⟩
 | [],_,_,d=>by simp at d
 | e :: b,c,0,_=>by simp[fz]
 | e :: b,c,a+1,d=>by
  simp only[fz,List.getElem?_cons_succ,List.getElem_cons_succ];rw[afo s w b (c+1) a (by simpa using d),show c+1+a=c+(a+1) from AY]
theorem w9(s:Int):∀(d:C_ (C_ ea)) (c a b:Nat) (f:a<d.length) (e:b<d[a].length),(cellsOf s d c)[total (d.take a)+b]? = some ⟨s,(c+a:Nat),b,d[a][b].aQ,d[a][b].ab,d[a][b].kind⟩
 | [],_,_,_,f,_=>by simp at f
 | g :: h,c,0,b,_,e=>by
  simp only[List.take_zero,total,List.map_nil,List.sum_nil,Nat.zero_add,List.getElem_cons_zero,cellsOf] at e ⊢;rw[List.getElem?_append_left (by rw[rD];exact e),afo s c g 0 b e];simp
 | g :: h,c,a+1,b,f,e=>by
  simp only[List.take_succ_cons,Aj,List.getElem_cons_succ,cellsOf] at e ⊢;rw[List.getElem?_append_right (by rw[rD];omega),rD,show g.length+total (h.take a)+b - g.length=total (h.take a)+b from AY,w9 s h (c+1) a b (by simpa using f) e,show c+1+a=c+(a+1) from AY]
def afs{m:Model}{k p:Nat}(d:k<(insts m).length)(j:p<m.procs.length)(e:kf m (insts m)[k]=kR m.scalars m.procs[p]):∃l:b7 m k<(bF m).length,(bF m)[b7 m k].aQ=0/\(bF m)[b7 m k].ab=m.procs[p].cb - 1:=by
 have f:k<(dH m).length:=by simpa[dH] using d
 have a:(dH m)[k]=kR m.scalars m.procs[p]:=by simp[dH,e]
 have g:0<(dH m)[k].length:=by rw[a,py];omega
 have h:=w9 3 (dH m) 0 k 0 f g;have b:=MD (m:=m) (c:=b7 m k) (by unfold b7;omega);rw[show b7 m k - (total (bT m)+total (cn m))=total ((dH m).take k)+0 from by unfold b7;omega,h] at b;obtain⟨i,c⟩:=List.getElem?_eq_some_iff.1 b;refine⟨i,?_,?_⟩
 .rw[c];simp only[a];rfl
 .rw[c];simp only[a];rfl
theorem Fits.loc{m:Model}{s:C_ Int}(h:Fits m s){k p:Nat}(e:k<(insts m).length)(f:p<m.procs.length)(g:kf m (insts m)[k]=kR m.scalars m.procs[p]):∃a:Nat,s[b7 m k]? = some (a:Int)/\(a:Int)<m.procs[p].cb:=by
 obtain⟨b,i,j⟩:=afs e f g;have c:b7 m k<s.length:=by rw[h.len];exact b
 have d:=h.cell _ c b;rw[i,j] at d;refine⟨s[b7 m k].toNat,?_,AY⟩;rw[List.getElem?_eq_getElem c,Int.toNat_of_nonneg d.1]
def ZU(m:Model)(s:C_ Int)(p l:Int)(k:Nat):sX m s p l (k+1)=sX m s p l k+if ((insts m)[k]?.map (·.proc))=some p/\s[b7 m k]? = some l then 1 else 0:=by
 unfold sX;rw[AI8,List.filter_append,JM,List.filter_cons,List.filter_nil];by_cases a:((insts m)[k]?.map (·.proc))=some p/\s[b7 m k]? = some l
 .rw[decide_eq_true a,if_pos rfl,if_pos a];rfl
 .rw[decide_eq_false a,if_neg Ah,if_neg a];rfl
def w3(m:Model)(s:C_ Int)(p:Nat)(n:Int)(k:Nat):(jI m s p n k).length=n.toNat:=by simp[jI]
def FC{m:Model}{s:C_ Int}{p:Nat}{n:Int}{k d:Nat}(h:d<n.toNat):(jI m s p n k)[d]? = some ((sX m s p d k:Nat):Int):=by
 simp[jI,h]
def ZX(m:Model)(s:C_ Int)(p:Nat)(n:Int):jI m s p n 0=List.replicate n.toNat 0:=by
 apply List.ext_getElem?;intro b;by_cases a:b<n.toNat
 .rw[FC a];simp[sX,a]
 .rw[List.getElem?_eq_none (by rw[w3];omega),List.getElem?_eq_none (by simp;omega)]
def ZV{m:Model}{s:C_ Int}{p:Nat}{n:Int}{k:Nat}(h:(insts m)[k]?.map (·.proc)≠some (p:Int)):jI m s p n (k+1)=jI m s p n k:=by
 unfold jI;apply AI4;intro b _;rw[ZU,if_neg (λa=>h a.1),AH1]
def ZW{m:Model}{s:C_ Int}{p:Nat}{n:Int}{k d:Nat}(h:(insts m)[k]?.map (·.proc)=some (p:Int))(b:s[b7 m k]? = some (d:Int))(g:d<n.toNat):jI m s p n (k+1)=(jI m s p n k).set d ((sX m s p d k:Nat)+1:Int):=by
 apply List.ext_getElem?;intro c;rw[List.getElem?_set];by_cases e:c<n.toNat
 .rw[FC e,ZU];by_cases a:d=c
  .subst a;rw[if_pos ⟨h,b⟩,if_pos rfl,if_pos (by rw[w3];exact g)];rfl
  .rw[if_neg (λi=>a (by have f:=i.2;rw[b] at f;have j:=Option.some.inj f;omega)),if_neg a,FC e,AH1]
 .rw[List.getElem?_eq_none (by rw[w3];omega),if_neg AY,List.getElem?_eq_none (by rw[w3];omega)]
def JE(m:Model)(s:C_ Int)(p l:Int)(k:Nat):sX m s p l k<=k:=by
 unfold sX;refine Ug (List.length_filter_le _ _) ?_;simp
end o