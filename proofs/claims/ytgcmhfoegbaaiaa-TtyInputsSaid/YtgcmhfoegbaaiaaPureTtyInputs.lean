/- The law TtyInputs, as the printed row asks it: proved in YtgcmhfoegbaaiaaMyTtyL2. -/
import Derived.Test.YtgcmhfoegbaaiaaMyTtyL2
