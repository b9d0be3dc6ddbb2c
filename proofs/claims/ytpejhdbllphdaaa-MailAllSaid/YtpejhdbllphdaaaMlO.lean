/-
  What is told of mail, and what functions end with.
-/
import Derived.Test.YtpejhdbllphdaaaMlM
import Derived.Test.YtpejhdbllphdaaaOut
