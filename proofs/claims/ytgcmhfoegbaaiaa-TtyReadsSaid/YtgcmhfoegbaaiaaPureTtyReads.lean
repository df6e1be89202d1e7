/- The law TtyReads, as the printed row asks it: proved in YtgcmhfoegbaaiaaMyTtyL3. -/
import Derived.Test.YtgcmhfoegbaaiaaMyTtyL3
